/- Sets of nodes in maps by id: put, moves. Conditions: none, or as the theorems say. -/
import Derived.Test.YtjfelfjobeeenaaGreatN9
namespace Go.Proofs.YtjfelfjobeeenaaGreat
set_option maxHeartbeats 200000000
set_option linter.unusedVariables false
set_option linter.unusedSimpArgs false
open Go.RowKit Go.Sf Go.Shelf
def um (l:List Int) (n:Int):List Int:=if n∈l then l else l ++ [n]
def Zc (l:List Int) (n:Int):List Int:=l.filter fun x=>decide (x≠n)
theorem zrp (l:List Int) (n:Int):ym (l.map fun x=>(x,())) n ()=(um l n).map fun x=>(x,()):=by
 unfold um
 induction l with
 | nil=>rfl
 | cons a r ih=>
  simp only[List.map_cons,ym]
  by_cases e:a=n
  ·subst e;simp
  ·rw[if_neg e,ih]
   by_cases hm:n∈r
   ·simp[hm]
   ·have:¬n=a:=fun h=>e h.symm
    simp[hm,this]
theorem zbz (l:List Int) (n:Int):Ug (l.map fun x=>(x,())) n=(Zc l n).map fun x=>(x,()):=by
 unfold Ug Zc;rw[List.filter_map]
 rfl
def ql (m:List (ID × ye)) (i:ID) (f:List Int→List Int):List (ID × ye):=m.map fun p=>if p.1=i then (p.1,⟨p.2.blk,f p.2.mem⟩) else p
def Zb (m:List (ID × ye)) (i:ID) (n:Int) (nb:Nat):List (ID × ye):=if (zt m i).isSome=true then ql m i (fun l=>um l n) else m ++ [(i,⟨nb,[n]⟩)]
theorem zet (m:List (ID × ye)) (i:ID) (f:List Int→List Int):(ql m i f).map (·.1)=m.map (·.1):=by
 unfold ql;rw[List.map_map];apply List.map_congr_left;intro p _;simp only[Function.comp];split <;> rfl
theorem zb9 (m:List (ID × ye)) (i:ID) (f:List Int→List Int):(ql m i f).map (·.2.blk)=m.map (·.2.blk):=by
 unfold ql;rw[List.map_map];apply List.map_congr_left;intro p _;simp only[Function.comp];split <;> rfl
theorem zva (m:List (ID × ye)) (i:ID) (f:List Int→List Int):(ql m i f).map (fun p=>(zx p.1,yw p.2))=m.map (fun p=>(zx p.1,yw p.2)):=by
 unfold ql;rw[List.map_map];apply List.map_congr_left;intro p _;simp only[Function.comp];split <;> rfl
theorem zeu {m:List (ID × ye)} {i:ID} (h:zt m i=none) (f:List Int→List Int):ql m i f=m:=by
 unfold ql;have:∀p∈m,(if p.1=i then ((p.1,⟨p.2.blk,f p.2.mem⟩):ID × ye) else p)=p:=fun p hp=>if_neg (jv.1 h p hp)
 rw[List.map_congr_left this];simp
theorem ziz {w:World} {b:Nat} {m:List (ID × ye)} (h:zw w b zx yw m) (i:ID) (f:List Int→List Int):zw w b zx yw (ql m i f):=by
 obtain⟨es,c,hb,hs,he⟩:=h
 exact⟨es,c,hb,hs,by rw[zva];exact he⟩
structure Two (w:World) (fb tb:Nat) (mf mt:List (ID × ye)):Prop where
 f:zw w fb zx yw mf
 t:zw w tb zx yw mt
 fs:∀x∈mf,qr w x.2
 ts:∀x∈mt,qr w x.2
 nd:(fb :: tb :: (mf.map (·.2.blk)++mt.map (·.2.blk))).Nodup
section
variable {w w1 : World} {fb tb : Nat} {mf mt : List (ID × ye)}
theorem Two.grown (h:Two w fb tb mf mt) (hg:w.grownBy w1 none):Two w1 fb tb mf mt:=
 ⟨h.f.kept hg (by simp),h.t.kept hg (by simp),fun x hx=>zw.kept (h.fs x hx) hg (by simp),fun x hx=>zw.kept (h.ts x hx) hg (by simp),h.nd⟩
theorem Two.swap (h:Two w fb tb mf mt):Two w tb fb mt mf:=by
 refine⟨h.t,h.f,h.ts,h.fs,?_⟩;have nd:=h.nd;simp only[List.nodup_cons,List.mem_cons,List.mem_append,not_or] at nd ⊢;refine⟨⟨fun e=>nd.1.1 e.symm,nd.2.1.2,nd.2.1.1⟩,⟨nd.1.2.2,nd.1.2.1⟩,?_⟩
 exact(List.perm_append_comm.nodup_iff).1 nd.2.2
theorem zpv {m:List (ID × ye)} (h:(m.map (·.2.blk)).Nodup) {x y:ID × ye} (hx:x∈m) (hy:y∈m) (e:x.2.blk=y.2.blk):x=y:=by
 induction m with
 | nil=>simp at hx
 | cons z r ih=>
  simp only[List.map_cons,List.nodup_cons] at h
  rcases List.mem_cons.1 hx with rfl|hx <;> rcases List.mem_cons.1 hy with rfl|hy
  ·rfl
  ·exact absurd (e ▸ List.mem_map.2 ⟨y,hy,rfl⟩) h.1
  ·exact absurd (e.symm ▸ List.mem_map.2 ⟨x,by assumption,rfl⟩) h.1
  ·exact ih h.2 hx hy
theorem Two.mod (h:Two w fb tb mf mt) {i:ID} {s:ye} (hs:zt mf i=some s) (f:List Int→List Int) (hm:qr w1 ⟨s.blk,f s.mem⟩) (hg:w.grownBy w1 (some s.blk)):Two w1 fb tb (ql mf i f) mt:=by
 have hmem:=yd hs;have nd:=h.nd;simp only[List.nodup_cons,List.mem_cons,List.mem_append,not_or,List.mem_map,not_exists,not_and] at nd;have n1:fb≠s.blk:=fun e=>nd.1.2.1 _ hmem e.symm
 have n2:tb≠s.blk:=fun e=>nd.2.1.1 _ hmem e.symm
 refine⟨ziz (h.f.kept hg (by simpa using n1)) i f,h.t.kept hg (by simpa using n2),?_,?_,by rw[zb9];exact h.nd⟩
 ·intro x hx
  unfold ql at hx;obtain⟨p,hp,rfl⟩:=List.mem_map.1 hx
  by_cases e:p.1=i
  ·have:p=(i,s):=by
    obtain⟨pk,pv⟩:=p;simp only at e;subst e;rw[zct h.f.nodup hp hmem]
   subst this;simpa using hm
  ·rw[if_neg e]
   refine zw.kept (h.fs p hp) hg ?_;intro e2;have:p=(i,s):=zpv (List.nodup_append.1 (List.nodup_cons.1 (List.nodup_cons.1 h.nd).2).2).1 hp hmem (by simpa using e2)
   rw[this] at e;exact e rfl
 ·intro x hx
  refine zw.kept (h.ts x hx) hg ?_;intro e2;have e3:x.2.blk=s.blk:=by simpa using e2
  exact(List.nodup_append.1 (List.nodup_cons.1 (List.nodup_cons.1 h.nd).2).2).2.2 s.blk (List.mem_map.2 ⟨_,hmem,rfl⟩) x.2.blk (List.mem_map.2 ⟨x,hx,rfl⟩) e3.symm
theorem Two.new (h:Two w fb tb mf mt) {i:ID} (hn:zt mt i=none) {nb:Nat} (hm:qr w1 ⟨nb,[]⟩) (ht:zw w1 tb zx yw (ym mt i ⟨nb,[]⟩)) (hg:w.grownBy w1 (some tb)) (hnb:w.heap.size≤nb) :
  Two w1 fb tb mf (mt ++ [(i,⟨nb,[]⟩)]):=by
 have nd:=h.nd;have hlt:∀b∈fb :: tb :: (mf.map (·.2.blk)++mt.map (·.2.blk)),b<w.heap.size:=by
  intro b hb;simp only[List.mem_cons,List.mem_append,List.mem_map] at hb
  rcases hb with rfl|rfl|⟨x,hx,rfl⟩|⟨x,hx,rfl⟩
  ·exact h.f.lt
  ·exact h.t.lt
  ·exact zw.lt (h.fs x hx)
  ·exact zw.lt (h.ts x hx)
 have nd':=nd;simp only[List.nodup_cons,List.mem_cons,List.mem_append,not_or,List.mem_map,not_exists,not_and] at nd';rw[Jn (jv.1 hn)] at ht;refine⟨h.f.kept hg (by simpa using nd'.1.1),ht,fun x hx=>zw.kept (h.fs x hx) hg (by simpa using nd'.2.1.1 x hx),?_,?_⟩
 ·intro x hx
  rcases List.mem_append.1 hx with hx|hx
  ·exact zw.kept (h.ts x hx) hg (by simpa using nd'.2.1.2 x hx)
  ·simp only[List.mem_singleton] at hx;subst hx;exact hm
 ·have:(fb :: tb :: (mf.map (·.2.blk)++(mt ++ [(i,(⟨nb,[]⟩:ye))]).map (·.2.blk)))=(fb :: tb :: (mf.map (·.2.blk)++mt.map (·.2.blk))) ++ [nb]:=by simp
  rw[this,List.nodup_append];refine⟨nd,by simp,?_⟩
  intro a ha b hb;simp only[List.mem_singleton] at hb;subst hb
  exact Nat.ne_of_lt (Nat.lt_of_lt_of_le (hlt a ha) hnb)
end
theorem zdo {w:World} (s:ye) (h:qr w s) (n:Int):Calls Tryz.prog 159 #[.map (some s.blk),.int .i64 n] w fun e w'=>
  e = .returned (.tuple #[])∧qr w' ⟨s.blk,um s.mem n⟩∧w.grownBy w' (some s.blk):=by
 obtain⟨b,l⟩:=s;simp only[qr] at *;rw[←zrp];generalize (l.map fun x=>(x,()))=m at *
 go_enter Tryz.func159,Tryz.ntmps159
 go_wp2_with (at_mapUpdate;refine vt _ rfl _ _ _ 127 rfl Qn Tryz.underlying127 b _ rfl h n () rfl rfl ?_;intro w2 hm2 hg2 hs2)
 go_end0
 exact⟨rfl,hm2,hg2⟩
theorem ud (b:Nat) (m:List (ID × ye)) (k:ByteArray) (n:Int) (r:Option ye) (hr:zt m ⟨k,n⟩=r):∀W,zw W b zx yw m→
  (Instr.lookup 120 (.map (some b)) (.agg #[.string k,.int .i64 n]) false).run Tryz.prog W = .ok (.map (r.map (·.blk))) W:=fun W hW=>by
 have:=hW.lookup zdf Tryz.underlying120 (zeroSet W) ⟨k,n⟩ false;rw[hr] at this
 cases r <;> exact this
theorem zjm {m:List (ID × ye)} {i:ID} (h:zt m i=none) (n:Int) (nb:Nat):ql (m ++ [(i,⟨nb,[]⟩)]) i (fun l=>um l n)=Zb m i n nb:=by
 unfold Zb;rw[h];have h1:=zeu h (fun l=>um l n)
 unfold ql at h1 ⊢;rw[List.map_append,h1];simp[um]
theorem zjn {m:List (ID × ye)} {i:ID} {s:ye} (h:zt m i=some s) (n:Int) (nb:Nat):ql m i (fun l=>um l n)=Zb m i n nb:=by
 unfold Zb;rw[h]
 rfl
theorem zb2 {m:List (ID × ye)} {i:ID} (h:zt m i=none) (s:ye):zt (m ++ [(i,s)]) i=some s:=by
 induction m with
 | nil=>simp[zt]
 | cons p r ih=>
  rw[zt] at h
  split at h
  ·cases h
  ·rename_i hne
   rw[List.cons_append,zt,if_neg hne,ih h]
structure Moved (w w':World) (fb tb:Nat) (mf mt:List (ID × ye)) (i:ID) (n:Int):Prop where
 two:∃nb,w.heap.size≤nb∧Two w' fb tb (ql mf i fun l=>Zc l n) (Zb mt i n nb)
 chg:Chg w w' (tb :: (mf.map (·.2.blk)++mt.map (·.2.blk)))
set_option maxRecDepth 100000 in
theorem Ul {w:World} {fb tb:Nat} {mf mt:List (ID × ye)} (h:Two w fb tb mf mt) (i:ID) (n:Int):Calls Tryz.prog 173 #[.map (some fb),.map (some tb),zx i,.int .i64 n] w fun e w'=>
  e = .returned (.tuple #[])∧Moved w w' fb tb mf mt i n:=by
 obtain⟨k,v⟩:=i;simp only[zx];have hft:=h.f;have htt:=h.t;have hmm:=@run_makeMap Tryz.prog;have hdn:=fun ty W=>zod Qn Tryz.underlying127 n 3 ty W
 have heq:=fun W r=>run_eql_map_nil (P:=Tryz.prog) W 127 _ _ r Tryz.underlying127
 have HT:=za h;clear h;have hbg:=zc w (.cells #[.string k,.int .i64 v] 54) none;have hflt:=hft.lt;have htlt:=htt.lt
 cases hf:zt mf ⟨k,v⟩ with
 | none=>
  have lf:=ud fb mf k v none hf;have HF:=za hf;clear hf;simp only[Option.map_none] at lf
  cases ht:zt mt ⟨k,v⟩ with
  | none=>
   have lt:=ud tb mt k v none ht;have lt2:=ud tb (ym mt ⟨k,v⟩ ⟨w.heap.size+1,[]⟩) k v (some ⟨w.heap.size+1,[]⟩) (Xo mt _ _);simp only[Option.map_none,Option.map_some] at lt lt2;have Ht:=za ht;clear ht;have hmade:∀W:World,W.heap.size=w.heap.size+1→zw (W.alloc (.map #[] 0)) (w.heap.size+1) (Value.int .i64) Yd ([]:List (Int × Unit)):=fun W hW=>hW ▸ zby W (Value.int .i64) Yd
   have HM:=za hmade;clear hmade
   go_enter Tryz.func173,Tryz.ntmps173
   go_wp2_with (first
    | (at_mapUpdate;refine vt (ek:=zx) (ev:=yw) _ rfl _ _ _ 120 rfl zdf Tryz.underlying120 tb mt rfl (by repeat (first|exact(htt.kept hbg (by simp))|refine zw.alloc ?_ _)) ⟨k,v⟩ ⟨w.heap.size+1,[]⟩ rfl rfl ?_;intro w2 hm2 hg2 hs2;have y0:w2.cell? ⟨w.heap.size,0,none⟩=some (.string k):=hg2.cell (by simp[go_sem]) (by simp;omega);have y1:w2.cell? ⟨w.heap.size,1,none⟩=some (.int .i64 v):=hg2.cell (by simp[go_sem]) (by simp;omega);have hns:qr w2 ⟨w.heap.size+1,[]⟩:=(HM.out (w.alloc (.cells #[.string k,.int .i64 v] 54)) (by simp)).kept hg2 (by simp;omega);have HNS:=za hns;clear hns)
    | (go_at_call 159;refine(zdo ⟨w.heap.size+1,[]⟩ HNS.out n).mono ?_;rintro e w3 ⟨rfl,hs3,hg3⟩))
   go_end0
   have T1:Two (w.alloc (.cells #[.string k,.int .i64 v] 54)) fb tb (ql mf ⟨k,v⟩ fun l=>Zc l n) mt:=(by have:=HT.out.grown hbg;rw[←zeu HF.out (fun l=>Zc l n)] at this;exact this:Two (w.alloc (.cells #[.string k,.int .i64 v] 54)) fb tb (ql mf ⟨k,v⟩ fun l=>Zc l n) mt)
   have T2:=T1.new Ht.out HNS.out hm2 ((zc (w.alloc (.cells #[.string k,.int .i64 v] 54)) (.map #[] 0) (some tb)).andThen hg2 (fun j hj=>by cases hj;exact Or.inr rfl)) (by simp)
   have T3:=(T2.swap.mod (zb2 Ht.out _) (fun l=>um l n) hs3 hg3).swap
   refine⟨rfl,⟨w.heap.size+1,by omega,?_⟩,?_⟩
   ·rw[←zjm Ht.out];exact T3
   ·exact(((Chg.of_grown hbg (tb :: (mf.map (·.2.blk)++mt.map (·.2.blk)))).grown (zc (w.alloc (.cells #[.string k,.int .i64 v] 54)) (.map #[] 0) none)).turned hg2 (Or.inl (by simp))).turned hg3 (Or.inr (by simp))
  | some st=>
   have lt:=ud tb mt k v (some st) ht;simp only[Option.map_some] at lt;have Ht:=za ht;have hst:qr (w.alloc (.cells #[.string k,.int .i64 v] 54)) st:=zw.kept (HT.out.ts _ (yd ht)) hbg (by simp)
   have HS:=za hst;clear ht hst
   go_enter Tryz.func173,Tryz.ntmps173
   go_wp2_with (first
    | (go_at_call 159;refine(zdo st HS.out n).mono ?_;rintro e w3 ⟨rfl,hs3,hg3⟩))
   go_end0
   have T1:Two (w.alloc (.cells #[.string k,.int .i64 v] 54)) fb tb (ql mf ⟨k,v⟩ fun l=>Zc l n) mt:=(by have:=HT.out.grown hbg;rw[←zeu HF.out (fun l=>Zc l n)] at this;exact this:Two (w.alloc (.cells #[.string k,.int .i64 v] 54)) fb tb (ql mf ⟨k,v⟩ fun l=>Zc l n) mt)
   have T3:=(T1.swap.mod Ht.out (fun l=>um l n) hs3 hg3).swap
   refine⟨rfl,⟨w.heap.size+1,by omega,?_⟩,?_⟩
   ·rw[←zjn Ht.out];exact T3
   ·exact(Chg.of_grown hbg (tb :: (mf.map (·.2.blk)++mt.map (·.2.blk)))).turned hg3 (Or.inl (by simp only[List.mem_cons,List.mem_append,List.mem_map];exact Or.inr (Or.inr ⟨_,yd Ht.out,rfl⟩)))
 | some sf=>
  have lf:=ud fb mf k v (some sf) hf;have HF:=za hf;have hfm:=yd hf;have hsf:qr (w.alloc (.cells #[.string k,.int .i64 v] 54)) sf:=zw.kept (HT.out.fs _ hfm) hbg (by simp)
  have hsflt:sf.blk<w.heap.size:=zw.lt (HT.out.fs _ hfm);have hnf:tb≠sf.blk:=fun e=>by
   have nd:=HT.out.nd;simp only[List.nodup_cons,List.mem_cons,List.mem_append,not_or,List.mem_map,not_exists,not_and] at nd
   exact nd.2.1.1 _ hfm e.symm
  have HSF:=za hsf;clear hf hfm hsf;simp only[Option.map_some] at lf
  cases ht:zt mt ⟨k,v⟩ with
  | none=>
   have lt:=ud tb mt k v none ht;have lt2:=ud tb (ym mt ⟨k,v⟩ ⟨w.heap.size+1,[]⟩) k v (some ⟨w.heap.size+1,[]⟩) (Xo mt _ _);simp only[Option.map_none,Option.map_some] at lt lt2;have Ht:=za ht;clear ht;have hmade:∀W:World,W.heap.size=w.heap.size+1→zw (W.alloc (.map #[] 0)) (w.heap.size+1) (Value.int .i64) Yd ([]:List (Int × Unit)):=fun W hW=>hW ▸ zby W (Value.int .i64) Yd
   have HM:=za hmade;clear hmade
   go_enter Tryz.func173,Tryz.ntmps173
   go_wp2_with (first
    | (at_delete;refine jg (ek:=Value.int .i64) (ev:=Yd) _ rfl _ _ 127 3 rfl Qn Tryz.underlying127 sf.blk (sf.mem.map fun n=>(n,())) rfl HSF.out n rfl ?_;intro w1 hm1 hg1 hs1;have x0:w1.cell? ⟨w.heap.size,0,none⟩=some (.string k):=hg1.cell (by simp[go_sem]) (by simp;omega);have x1:w1.cell? ⟨w.heap.size,1,none⟩=some (.int .i64 v):=hg1.cell (by simp[go_sem]) (by simp;omega);have TW1:=(HT.out.grown hbg).mod HF.out (fun l=>Zc l n) (by rw[zbz] at hm1;exact hm1) hg1;have htt1:=TW1.t;have hs1':w1.heap.size=w.heap.size+1:=hs1.trans (by simp);clear hs1;have H1:=za TW1;clear TW1 hm1)
    | (at_mapUpdate;refine vt (ek:=zx) (ev:=yw) _ rfl _ _ _ 120 rfl zdf Tryz.underlying120 tb mt rfl (by repeat (first|exact htt1|refine zw.alloc ?_ _)) ⟨k,v⟩ ⟨w.heap.size+1,[]⟩ rfl rfl ?_;intro w2 hm2 hg2 hs2;have y0:w2.cell? ⟨w.heap.size,0,none⟩=some (.string k):=hg2.cell (by simp[go_sem,x0,x1,hs1']) (by simp;omega);have y1:w2.cell? ⟨w.heap.size,1,none⟩=some (.int .i64 v):=hg2.cell (by simp[go_sem,x0,x1,hs1']) (by simp;omega);have hns:qr w2 ⟨w.heap.size+1,[]⟩:=(HM.out w1 hs1').kept hg2 (by simp;omega);have HNS:=za hns;clear hns)
    | (go_at_call 159;refine(zdo ⟨w.heap.size+1,[]⟩ HNS.out n).mono ?_;rintro e w3 ⟨rfl,hs3,hg3⟩))
   go_end0
   have T1:Two w1 fb tb (ql mf ⟨k,v⟩ fun l=>Zc l n) mt:=H1.out
   have T2:=T1.new Ht.out HNS.out hm2 ((zc w1 (.map #[] 0) (some tb)).andThen hg2 (fun j hj=>by cases hj;exact Or.inr rfl)) (by simp[hs1'])
   have T3:=(T2.swap.mod (zb2 Ht.out _) (fun l=>um l n) hs3 hg3).swap
   refine⟨rfl,⟨w.heap.size+1,by omega,?_⟩,?_⟩
   ·rw[←zjm Ht.out];exact T3
   ·exact((((Chg.of_grown hbg (tb :: (mf.map (·.2.blk)++mt.map (·.2.blk)))).turned hg1 (Or.inl (by simp only[List.mem_cons,List.mem_append,List.mem_map];exact Or.inr (Or.inl ⟨_,yd HF.out,rfl⟩)))).grown (zc w1 (.map #[] 0) none)).turned hg2 (Or.inl (by simp))).turned hg3 (Or.inr (by simp))
  | some st=>
   have lt:=ud tb mt k v (some st) ht;simp only[Option.map_some] at lt;have Ht:=za ht;have hst:qr (w.alloc (.cells #[.string k,.int .i64 v] 54)) st:=zw.kept (HT.out.ts _ (yd ht)) hbg (by simp)
   have HS:=za hst;clear ht hst
   go_enter Tryz.func173,Tryz.ntmps173
   go_wp2_with (first
    | (at_delete;refine jg (ek:=Value.int .i64) (ev:=Yd) _ rfl _ _ 127 3 rfl Qn Tryz.underlying127 sf.blk (sf.mem.map fun n=>(n,())) rfl HSF.out n rfl ?_;intro w1 hm1 hg1 hs1;have x0:w1.cell? ⟨w.heap.size,0,none⟩=some (.string k):=hg1.cell (by simp[go_sem]) (by simp;omega);have x1:w1.cell? ⟨w.heap.size,1,none⟩=some (.int .i64 v):=hg1.cell (by simp[go_sem]) (by simp;omega);have TW1:=(HT.out.grown hbg).mod HF.out (fun l=>Zc l n) (by rw[zbz] at hm1;exact hm1) hg1;have htt1:=TW1.t;have hs1':w1.heap.size=w.heap.size+1:=hs1.trans (by simp);clear hs1;have H1:=za TW1;clear TW1 hm1)
    | (go_at_call 159;refine(zdo st (H1.out.ts _ (yd Ht.out)) n).mono ?_;rintro e w3 ⟨rfl,hs3,hg3⟩))
   go_end0
   have T1:Two w1 fb tb (ql mf ⟨k,v⟩ fun l=>Zc l n) mt:=H1.out
   have T3:=(T1.swap.mod Ht.out (fun l=>um l n) hs3 hg3).swap
   refine⟨rfl,⟨w.heap.size+1,by omega,?_⟩,?_⟩
   ·rw[←zjn Ht.out];exact T3
   ·exact((Chg.of_grown hbg (tb :: (mf.map (·.2.blk)++mt.map (·.2.blk)))).turned hg1 (Or.inl (by simp only[List.mem_cons,List.mem_append,List.mem_map];exact Or.inr (Or.inl ⟨_,yd HF.out,rfl⟩)))).turned hg3 (Or.inl (by simp only[List.mem_cons,List.mem_append,List.mem_map];exact Or.inr (Or.inr ⟨_,yd Ht.out,rfl⟩)))
section
variable {w w1 : World} {tb : Nat} {T : Tab}
def Zl (T:Tab) (i:ID) (p:xd) (code:Int):List (Int × yz):=
 if (callV T p.zvw).zvy=p.zvy∧(callV T p.zvw).zvz=i.zvz then ym T.calls p.zvw ⟨(callV T p.zvw).zvy,(callV T p.zvw).zvz,true,code⟩ else T.calls
def jw (T:Tab) (i:ID) (p:xd) (code:Int):Tab:={ T with calls:=Zl T i p code,pending:=Ug T.pending i }
set_option maxRecDepth 100000 in
theorem zgp (h:yh w tb T) (i:ID) (p:xd) (code:Int) :
  Calls Tryz.prog 174 #[.pointer (some ⟨tb,0,none⟩),zx i,xw p,.int .i64 code] w fun e w'=>e = .returned (.tuple #[])∧
   yh w' tb (jw T i p code)∧Chg w w' (T.blocks tb):=by
 have htb:=h.tlt;have htb1:tb<w.heap.size+1:=by omega
 have htb2:tb<w.heap.size+1+1:=by omega
 have c4:=h.c4;have c6:=h.c6;have hc:=h.calls;have hp:=h.pending;have hclt:=h.calls.lt;have hplt:=h.pending.lt;have hcp:T.cb≠T.pb:=by
  have nd:=h.nodup;simp only[Tab.blocks,List.nodup_cons,List.mem_cons,List.mem_append,List.mem_map,not_or,not_exists,not_and] at nd
  exact nd.2.2.1.2.1
 have HT:=za h;clear h;obtain⟨k,v⟩:=i;obtain⟨pc,pr⟩:=p;have hrun:=fun W hW=>yh.run_calls (T:=T) W hW pc
 simp only[zx,xw];have HD:Hid (Zl T ⟨k,v⟩ ⟨pc,pr⟩ code=if (callV T pc).zvy=pr∧(callV T pc).zvz=v then ym T.calls pc ⟨(callV T pc).zvy,(callV T pc).zvz,true,code⟩ else T.calls):=(show _=_ from rfl)
 generalize (callV T pc).zvy=r1 at *;generalize (callV T pc).zvz=r2 at *;generalize (callV T pc).done=r3 at *;generalize (callV T pc).code=r4 at *
 by_cases h1:r1=pr
 ·have d1:(r1 == pr)=true:=by simpa using h1
  by_cases h2:r2=v
  ·have d2:(r2 == v)=true:=by simpa using h2
   have HD2:Hid (Zl T ⟨k,v⟩ ⟨pc,pr⟩ code=ym T.calls pc ⟨r1,r2,true,code⟩):=(show _=_ from by rw[HD.out,if_pos ⟨h1,h2⟩])
   clear h1 h2 HD
   go_enter Tryz.func174,Tryz.ntmps174
   go_wp2
   go_region
   go_wp2;have hg:w.grownBy ((((w.alloc (.cells #[.string k,.int .i64 v] 54)).alloc (.cells #[.int .i64 pc,.int .i64 pr] 130)).alloc (.cells #[.int .i64 r1,.int .i64 r2,.bool true,.int .i64 code] 77)).drew) none:=by repeat (first|exact zd _|exact zc _ _ _|refine zg ?_ _|refine zf ?_)
   have x0:((((w.alloc (.cells #[.string k,.int .i64 v] 54)).alloc (.cells #[.int .i64 pc,.int .i64 pr] 130)).alloc (.cells #[.int .i64 r1,.int .i64 r2,.bool true,.int .i64 code] 77)).drew).cell? ⟨w.heap.size,0,none⟩=some (.string k):=by simp[go_sem]
   have x1:((((w.alloc (.cells #[.string k,.int .i64 v] 54)).alloc (.cells #[.int .i64 pc,.int .i64 pr] 130)).alloc (.cells #[.int .i64 r1,.int .i64 r2,.bool true,.int .i64 code] 77)).drew).cell? ⟨w.heap.size,1,none⟩=some (.int .i64 v):=by simp[go_sem]
   have y0:((((w.alloc (.cells #[.string k,.int .i64 v] 54)).alloc (.cells #[.int .i64 pc,.int .i64 pr] 130)).alloc (.cells #[.int .i64 r1,.int .i64 r2,.bool true,.int .i64 code] 77)).drew).cell? ⟨w.heap.size+1,0,none⟩=some (.int .i64 pc):=by simp[go_sem]
   have z0:((((w.alloc (.cells #[.string k,.int .i64 v] 54)).alloc (.cells #[.int .i64 pc,.int .i64 pr] 130)).alloc (.cells #[.int .i64 r1,.int .i64 r2,.bool true,.int .i64 code] 77)).drew).cell? ⟨w.heap.size+1+1,0,none⟩=some (.int .i64 r1):=by simp[go_sem]
   have z1:((((w.alloc (.cells #[.string k,.int .i64 v] 54)).alloc (.cells #[.int .i64 pc,.int .i64 pr] 130)).alloc (.cells #[.int .i64 r1,.int .i64 r2,.bool true,.int .i64 code] 77)).drew).cell? ⟨w.heap.size+1+1,1,none⟩=some (.int .i64 r2):=by simp[go_sem]
   have z2:((((w.alloc (.cells #[.string k,.int .i64 v] 54)).alloc (.cells #[.int .i64 pc,.int .i64 pr] 130)).alloc (.cells #[.int .i64 r1,.int .i64 r2,.bool true,.int .i64 code] 77)).drew).cell? ⟨w.heap.size+1+1,2,none⟩=some (.bool true):=by simp[go_sem]
   have z3:((((w.alloc (.cells #[.string k,.int .i64 v] 54)).alloc (.cells #[.int .i64 pc,.int .i64 pr] 130)).alloc (.cells #[.int .i64 r1,.int .i64 r2,.bool true,.int .i64 code] 77)).drew).cell? ⟨w.heap.size+1+1,3,none⟩=some (.int .i64 code):=by simp[go_sem]
   generalize ((((w.alloc (.cells #[.string k,.int .i64 v] 54)).alloc (.cells #[.int .i64 pc,.int .i64 pr] 130)).alloc (.cells #[.int .i64 r1,.int .i64 r2,.bool true,.int .i64 code] 77)).drew)=W3 at *;have TW:=HT.out.grown hg;have k4:=TW.c4;have hc2:=TW.calls;have htb3:=TW.tlt;have TW':=za TW;clear TW
   go_still_tail 7,(by kernel_rfl)
   go_wp2_with (at_mapUpdate;refine vt (ek:=Value.int .i64) (ev:=qt) _ rfl _ _ _ 117 rfl Qn Tryz.underlying117 T.cb T.calls rfl ((Zn _).2 hc2) pc ⟨r1,r2,true,code⟩ rfl rfl ?_;intro w3 hm3 hg3 hs3;have u0:w3.cell? ⟨w.heap.size,0,none⟩=some (.string k):=hg3.cell x0 (by simp;omega);have u1:w3.cell? ⟨w.heap.size,1,none⟩=some (.int .i64 v):=hg3.cell x1 (by simp;omega);have TP:=(TW'.out.grown (zf (zd _))).upd_calls hm3 hg3;have CH:Chg w w3 (T.blocks tb):=(((Chg.of_grown hg (T.blocks tb)).grown (zf (zd _))).turned hg3 (Or.inl (by simp[Tab.blocks])));have HCH:=za CH;have TP0:=za TP;clear CH TP hm3 x0 x1 y0 z0 z1 z2 z3)
   have TP:=TP0.out;have hplt2:T.pb<w3.heap.size:=TP.pending.lt;have k6:=TP.c6;have hp2:=TP.pending;have htb4:=TP.tlt
   try simp only at k6 hp2
   have TP':=za TP;clear TP
   go_still_tail 5,(by kernel_rfl)
   go_wp2_with (at_delete;refine jg (ek:=zx) (ev:=xw) _ rfl _ _ 119 54 rfl zdf Tryz.underlying119 T.pb T.pending rfl ((Zn _).2 hp2) ⟨k,v⟩ rfl ?_;intro w4 hm4 hg4 hs4)
   go_end0
   have T4:=(TP'.out.grown (zf (zd _))).upd_pending hm4 hg4;refine⟨rfl,?_,?_⟩
   ·unfold jw;rw[HD2.out];exact T4
   ·exact(HCH.out.grown (zf (zd _))).turned hg4 (Or.inl (by simp[Tab.blocks]))
  ·have d2:(r2 == v)=false:=by simpa using h2
   have HD2:Hid (Zl T ⟨k,v⟩ ⟨pc,pr⟩ code=T.calls):=(show _=_ from by rw[HD.out,if_neg (fun e=>h2 e.2)])
   clear h1 h2 HD
   go_enter Tryz.func174,Tryz.ntmps174
   go_wp2
   go_region
   go_wp2;have hg:w.grownBy ((((w.alloc (.cells #[.string k,.int .i64 v] 54)).alloc (.cells #[.int .i64 pc,.int .i64 pr] 130)).alloc (.cells #[.int .i64 r1,.int .i64 r2,.bool r3,.int .i64 r4] 77)).drew) none:=by repeat (first|exact zd _|exact zc _ _ _|refine zg ?_ _|refine zf ?_)
   have x0:((((w.alloc (.cells #[.string k,.int .i64 v] 54)).alloc (.cells #[.int .i64 pc,.int .i64 pr] 130)).alloc (.cells #[.int .i64 r1,.int .i64 r2,.bool r3,.int .i64 r4] 77)).drew).cell? ⟨w.heap.size,0,none⟩=some (.string k):=by simp[go_sem]
   have x1:((((w.alloc (.cells #[.string k,.int .i64 v] 54)).alloc (.cells #[.int .i64 pc,.int .i64 pr] 130)).alloc (.cells #[.int .i64 r1,.int .i64 r2,.bool r3,.int .i64 r4] 77)).drew).cell? ⟨w.heap.size,1,none⟩=some (.int .i64 v):=by simp[go_sem]
   generalize ((((w.alloc (.cells #[.string k,.int .i64 v] 54)).alloc (.cells #[.int .i64 pc,.int .i64 pr] 130)).alloc (.cells #[.int .i64 r1,.int .i64 r2,.bool r3,.int .i64 r4] 77)).drew)=W3 at *;have TP:=HT.out.grown hg;have hplt2:T.pb<W3.heap.size:=TP.pending.lt;have k6:=TP.c6;have hp2:=TP.pending;have htb4:=TP.tlt
   try simp only at k6 hp2
   have TP':=za TP;clear TP
   go_still_tail 5,(by kernel_rfl)
   go_wp2_with (at_delete;refine jg (ek:=zx) (ev:=xw) _ rfl _ _ 119 54 rfl zdf Tryz.underlying119 T.pb T.pending rfl ((Zn _).2 hp2) ⟨k,v⟩ rfl ?_;intro w4 hm4 hg4 hs4)
   go_end0
   have T4:=(TP'.out.grown (zf (zd _))).upd_pending hm4 hg4;refine⟨rfl,?_,?_⟩
   ·unfold jw;rw[HD2.out];exact T4
   ·exact((Chg.of_grown hg (T.blocks tb)).grown (zf (zd _))).turned hg4 (Or.inl (by simp[Tab.blocks]))
 ·have d1:(r1 == pr)=false:=by simpa using h1
  have HD2:Hid (Zl T ⟨k,v⟩ ⟨pc,pr⟩ code=T.calls):=(show _=_ from by rw[HD.out,if_neg (fun e=>h1 e.1)])
  clear h1 HD
  go_enter Tryz.func174,Tryz.ntmps174
  go_wp2
  go_region
  go_wp2;have hg:w.grownBy ((((w.alloc (.cells #[.string k,.int .i64 v] 54)).alloc (.cells #[.int .i64 pc,.int .i64 pr] 130)).alloc (.cells #[.int .i64 r1,.int .i64 r2,.bool r3,.int .i64 r4] 77)).drew) none:=by repeat (first|exact zd _|exact zc _ _ _|refine zg ?_ _|refine zf ?_)
  have x0:((((w.alloc (.cells #[.string k,.int .i64 v] 54)).alloc (.cells #[.int .i64 pc,.int .i64 pr] 130)).alloc (.cells #[.int .i64 r1,.int .i64 r2,.bool r3,.int .i64 r4] 77)).drew).cell? ⟨w.heap.size,0,none⟩=some (.string k):=by simp[go_sem]
  have x1:((((w.alloc (.cells #[.string k,.int .i64 v] 54)).alloc (.cells #[.int .i64 pc,.int .i64 pr] 130)).alloc (.cells #[.int .i64 r1,.int .i64 r2,.bool r3,.int .i64 r4] 77)).drew).cell? ⟨w.heap.size,1,none⟩=some (.int .i64 v):=by simp[go_sem]
  generalize ((((w.alloc (.cells #[.string k,.int .i64 v] 54)).alloc (.cells #[.int .i64 pc,.int .i64 pr] 130)).alloc (.cells #[.int .i64 r1,.int .i64 r2,.bool r3,.int .i64 r4] 77)).drew)=W3 at *;have TP:=HT.out.grown hg;have hplt2:T.pb<W3.heap.size:=TP.pending.lt;have k6:=TP.c6;have hp2:=TP.pending;have htb4:=TP.tlt
  try simp only at k6 hp2
  have TP':=za TP;clear TP
  go_still_tail 5,(by kernel_rfl)
  go_wp2_with (at_delete;refine jg (ek:=zx) (ev:=xw) _ rfl _ _ 119 54 rfl zdf Tryz.underlying119 T.pb T.pending rfl ((Zn _).2 hp2) ⟨k,v⟩ rfl ?_;intro w4 hm4 hg4 hs4)
  go_end0
  have T4:=(TP'.out.grown (zf (zd _))).upd_pending hm4 hg4;refine⟨rfl,?_,?_⟩
  ·unfold jw;rw[HD2.out];exact T4
  ·exact((Chg.of_grown hg (T.blocks tb)).grown (zf (zd _))).turned hg4 (Or.inl (by simp[Tab.blocks]))
end
def zcu (m:List (ID × ye)) (seen:ID→Bool) (n:Int):List (ID × ye):=m.map fun p=>(p.1,⟨p.2.blk,if seen p.1=true then Zc p.2.mem n else p.2.mem⟩)
def xi (m:List (ID × ye)) (n:Int):List (ID × ye):=m.map fun p=>(p.1,⟨p.2.blk,Zc p.2.mem n⟩)
theorem zhd (m:List (ID × ye)) (n:Int):zcu m (fun _=>false) n=m:=by
 unfold zcu;simp
theorem zm0 {m:List (ID × ye)} {seen:ID→Bool} (h:zf4 m seen) (n:Int):zcu m seen n=xi m n:=by
 unfold zcu xi
 apply List.map_congr_left
 intro p hp;rw[if_pos (h p hp)]
theorem zi9 {m:List (ID × ye)} {seen:ID→Bool} {k:ID} (hk:seen k=false) (n:Int):ql (zcu m seen n) k (fun l=>Zc l n)=zcu m (fun x=>seen x || decide (x=k)) n:=by
 unfold ql zcu;rw[List.map_map]
 apply List.map_congr_left
 intro p hp;simp only[Function.comp]
 by_cases e:p.1=k
 ·simp[e,hk]
 ·simp[e]
theorem zr3 (m:List (ID × ye)) (seen:ID→Bool) (n:Int):(zcu m seen n).map (·.1)=m.map (·.1):=by
 unfold zcu;rw[List.map_map];rfl
theorem zi8 (m:List (ID × ye)) (seen:ID→Bool) (n:Int):(zcu m seen n).map (·.2.blk)=m.map (·.2.blk):=by
 unfold zcu;rw[List.map_map];rfl
theorem Uh (m:List (ID × ye)) (n:Int):(xi m n).map (·.2.blk)=m.map (·.2.blk):=by
 unfold xi;rw[List.map_map];rfl
theorem zm1 {m:List (ID × ye)} (hn:(m.map (·.1)).Nodup) {seen:ID→Bool} {k:ID} {s:ye} (h:(k,s)∈m) (hk:seen k=false) (n:Int):zt (zcu m seen n) k=some s:=by
 refine vo (by rw[zr3];exact hn) ?_
 unfold zcu;refine List.mem_map.2 ⟨(k,s),h,?_⟩;simp[hk]
section
variable {w w1 : World} {tb : Nat} {T : Tab}
theorem yh.upd_sets (h:yh w tb T) {H R:List (ID × ye)} (hc:Chg w w1 (T.hb :: T.rb :: (T.holds.map (·.2.blk)++T.zv2.map (·.2.blk)))) (ht:Two w1 T.rb T.hb R H)
  (hH:∀x∈H,x.2.blk∈T.holds.map (·.2.blk)∨w.heap.size≤x.2.blk) (hR:∀x∈R,x.2.blk∈T.zv2.map (·.2.blk)∨w.heap.size≤x.2.blk):yh w1 tb { T with holds:=H,zv2:=R }:=by
 have nd:=h.nodup;have nd0:=nd;simp only[Tab.blocks,List.nodup_cons,List.mem_cons,List.mem_append,List.mem_map,not_or,not_exists,not_and] at nd;have out:∀b,b∈[tb,T.lb,T.cb,T.vb,T.pb]→b ∉ (T.hb :: T.rb :: (T.holds.map (·.2.blk)++T.zv2.map (·.2.blk))):=by
  intro b hb;simp only[List.mem_cons,List.not_mem_nil,or_false] at hb;simp only[List.mem_cons,List.mem_append,List.mem_map,not_or,not_exists,not_and]
  rcases hb with rfl|rfl|rfl|rfl|rfl
  ·exact⟨nd.1.2.2.2.2.1,nd.1.2.2.2.2.2.1,nd.1.2.2.2.2.2.2.1,nd.1.2.2.2.2.2.2.2⟩
  ·exact⟨nd.2.1.2.2.2.1,nd.2.1.2.2.2.2.1,nd.2.1.2.2.2.2.2.1,nd.2.1.2.2.2.2.2.2⟩
  ·exact⟨nd.2.2.1.2.2.1,nd.2.2.1.2.2.2.1,nd.2.2.1.2.2.2.2.1,nd.2.2.1.2.2.2.2.2⟩
  ·exact⟨nd.2.2.2.1.2.1,nd.2.2.2.1.2.2.1,nd.2.2.2.1.2.2.2.1,nd.2.2.2.1.2.2.2.2⟩
  ·exact⟨nd.2.2.2.2.1.1,nd.2.2.2.2.1.2.1,nd.2.2.2.2.1.2.2.1,nd.2.2.2.2.1.2.2.2⟩
 have blk:∀b,b∈[tb,T.lb,T.cb,T.vb,T.pb]→w1.heap[b]? = w.heap[b]?:=fun b hb=>hc.block (h.lt b (by
  simp only[List.mem_cons,List.not_mem_nil,or_false] at hb;simp only[Tab.blocks,List.mem_cons];rcases hb with rfl|rfl|rfl|rfl|rfl <;> simp)) (out b hb)
 have fresh:∀b,b∈[tb,T.lb,T.cb,T.vb,T.pb]→(b ∉ H.map (·.2.blk)∧b ∉ R.map (·.2.blk))∧b≠T.hb∧b≠T.rb:=by
  intro b hb;have h1:=out b hb;have hlt:b<w.heap.size:=h.lt b (by
   simp only[List.mem_cons,List.not_mem_nil,or_false] at hb;simp only[Tab.blocks,List.mem_cons];rcases hb with rfl|rfl|rfl|rfl|rfl <;> simp)
  simp only[List.mem_cons,List.mem_append,not_or] at h1;refine⟨⟨fun hm=>?_,fun hm=>?_⟩,h1.1,h1.2.1⟩
  ·obtain⟨x,hx,e⟩:=List.mem_map.1 hm
   rcases hH x hx with h2|h2
   ·exact h1.2.2.1 (e ▸ h2)
   ·omega
  ·obtain⟨x,hx,e⟩:=List.mem_map.1 hm
   rcases hR x hx with h2|h2
   ·exact h1.2.2.2 (e ▸ h2)
   ·omega
 exact {
  cells:=(blk tb (by simp)).trans h.cells
  zv0:=(blk T.lb (by simp)).trans h.zv0
  calls:=h.calls.same (blk T.cb (by simp))
  values:=h.values.same (blk T.vb (by simp))
  pending:=h.pending.same (blk T.pb (by simp))
  holds:=ht.t
  zv2:=ht.f
  hsets:=ht.ts
  rsets:=ht.fs
  nodup:=by
   have f0:=fresh tb (by simp)
   have f1:=fresh T.lb (by simp)
   have f2:=fresh T.cb (by simp)
   have f3:=fresh T.vb (by simp)
   have f4:=fresh T.pb (by simp)
   have n2:=ht.swap.nd;simp only[Tab.blocks];simp only[List.nodup_cons,List.mem_cons,List.mem_append,not_or] at n2 f0 f1 f2 f3 f4 ⊢
   exact⟨⟨nd.1.1,nd.1.2.1,nd.1.2.2.1,nd.1.2.2.2.1,f0.2.1,f0.2.2,f0.1.1,f0.1.2⟩,
    ⟨nd.2.1.1,nd.2.1.2.1,nd.2.1.2.2.1,f1.2.1,f1.2.2,f1.1.1,f1.1.2⟩,
    ⟨nd.2.2.1.1,nd.2.2.1.2.1,f2.2.1,f2.2.2,f2.1.1,f2.1.2⟩,
    ⟨nd.2.2.2.1.1,f3.2.1,f3.2.2,f3.1.1,f3.1.2⟩,
    ⟨f4.2.1,f4.2.2,f4.1.1,f4.1.2⟩,n2.1,n2.2⟩ }
theorem yh.two (h:yh w tb T):Two w T.rb T.hb T.zv2 T.holds:=by
 refine Two.swap ⟨h.holds,h.zv2,h.hsets,h.rsets,?_⟩;have:=h.nodup;unfold Tab.blocks at this
 exact(List.nodup_cons.1 (List.nodup_cons.1 (List.nodup_cons.1 (List.nodup_cons.1 (List.nodup_cons.1 this).2).2).2).2).2
theorem yh.upd_life (h:yh w tb T) (k:Nat) (n:Int):yh (w.setCell ⟨T.lb,k,none⟩ (.int .i64 n)) tb { T with zv0:=T.zv0.set k n }:=by
 have nd:=h.nodup;simp only[Tab.blocks,List.nodup_cons,List.mem_cons,List.mem_append,List.mem_map,not_or,not_exists,not_and] at nd;have ho:∀b,b≠T.lb→(w.setCell ⟨T.lb,k,none⟩ (.int .i64 n)).heap[b]? = w.heap[b]?:=fun b hb=>Below.heap_setCell w _ _ b hb
 exact {
  cells:=by
   rw[ho tb nd.1.1,h.cells];simp[Tab.cells]
  zv0:=by
   have:=h.zv0;simp only[World.setCell,Array.getElem?_modify,if_true,this];simp[List.map_set]
  calls:=h.calls.same (ho T.cb (Ne.symm nd.2.1.1))
  values:=h.values.same (ho T.vb (Ne.symm nd.2.1.2.1))
  pending:=h.pending.same (ho T.pb (Ne.symm nd.2.1.2.2.1))
  holds:=h.holds.same (ho T.hb (Ne.symm nd.2.1.2.2.2.1))
  zv2:=h.zv2.same (ho T.rb (Ne.symm nd.2.1.2.2.2.2.1))
  hsets:=fun x hx=>zw.same (h.hsets x hx) (ho x.2.blk (nd.2.1.2.2.2.2.2.1 x hx))
  rsets:=fun x hx=>zw.same (h.rsets x hx) (ho x.2.blk (nd.2.1.2.2.2.2.2.2 x hx))
  nodup:=h.nodup }
end
end Go.Proofs.YtjfelfjobeeenaaGreat
