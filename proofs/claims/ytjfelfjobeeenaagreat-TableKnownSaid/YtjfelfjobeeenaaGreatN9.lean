/- maps.DeleteFunc at the table's maps. Conditions: none, or as the theorems say. -/
import Derived.Test.YtjfelfjobeeenaaGreatN8
import Derived.Shelf.Abstract
import Derived.StillTailTactics
namespace Go.Proofs.YtjfelfjobeeenaaGreat
set_option maxHeartbeats 200000000
set_option linter.unusedVariables false
set_option linter.unusedSimpArgs false
open Go.RowKit Go.Sf Go.Shelf
theorem zpy (b:Nat) (m:List (ID × ye)) (f:ID→ye→Bool) (g:Nat) (cb:Array Value) (w:World) (eg:∀args w,(callFunc g args).run Tryz.prog w = .ok (.enter g args) w)
  (hm:zw w b zx yw m)
  (hdel:∀(W:World) (k:ID) (v:ye),w.grownBy W (some b)→(k,v)∈m→Calls Tryz.prog g (#[zx k,yw v]++cb) W fun e w'=>e = .returned (.bool (f k v))∧W.grownBy w' none) :
  Calls Tryz.prog 67 #[.map (some b),.func (.func g) #[] cb] w fun e w'=>e = .returned (.tuple #[])∧zw w' b zx yw (m.filter fun p=>!f p.1 p.2)∧w.grownBy w' (some b):=by
 have hnd:=hm.nodup;have HD:=za hdel;have HN:=za hnd;clear hdel hnd
 go_enter Tryz.func67,Tryz.ntmps67
 go_wp2_with (at_range;refine Vq _ rfl _ 120 rfl Tryz.underlying120 b m rfl hm ?_;intro w0 hi0 hg0 hs0)
 go_frame
 go_loopw [8] (fun _ wr=>∃seen,ut wr w.heap.size b zx yw (zaf m f seen) seen∧w.grownBy wr (some b)) (fun _ wr=>zfe wr w.heap.size b)
 case atStart=>exact⟨fun _=>false,by rw[zgn];exact hi0,hg0.but _⟩
 case round=>
  obtain⟨seen,hi,hgw⟩:=hrel
  go_wp2_with (at_next;refine Ui _ rfl _ rfl Vb w.heap.size b _ seen rfl hi ?_ ?_)
  ·intro hall
   go_wp2
   go_end0
   exact⟨rfl,by rw[←zlr hall];exact hi.map,hgw⟩
  ·intro k v w1 ⟨hmem,hsn,hi1,hg1,hs1,hen⟩
   have hin:(k,v)∈m:=(List.mem_filter.1 hmem).1;have hgw1:=hgw.andThen hg1 (fun j hj=>by cases hj;exact Or.inl (Nat.le_refl _))
   have hc:=HD.out (w1.alloc (.cells #[.string k.key,.int .i64 k.zvz] 54)) k v (hgw1.andThen (zc w1 _ none) (fun j hj=>by cases hj)) hin
   have hst:=zgo (f:=f) (seen:=seen) HN.out hmem;have hsk:=ze5 (f:=f) (seen:=seen) HN.out hmem;have hlt:=Vd (m:=zaf m f seen) (seen:=seen) hmem hsn;have hle:=zix (zaf m f seen) (fun x=>seen x || decide (x=k)) k
   have HK:=za (And.intro hst (And.intro hsk (And.intro hlt hle)));clear hst hsk hlt hle hmem hsn hin;obtain⟨kk,kn⟩:=k;obtain⟨vb,vs⟩:=v;simp only[zx,yw] at hen hc ⊢
   cases hp:f ⟨kk,kn⟩ ⟨vb,vs⟩ <;> rw[hp] at hc
   ·go_wp2_with (go_at_fn g;refine hc.mono ?_;rintro e w2 ⟨rfl,hg2⟩)
    have hi2:=hi1.kept (w':=w2) ((zc w1 _ none).andThen hg2 (fun j hj=>by cases hj)) (by simp) (by simp)
    go_roundw
    case rel=>exact⟨_,by rw[HK.out.1 hp];exact hi2,hgw1.andThen ((zc w1 _ none).andThen hg2 (fun j hj=>by cases hj)) (fun j hj=>by cases hj)⟩
    case measure=>rw[hi2.left,hi.left];exact HK.out.2.2.1
   ·go_wp2_with (first
     | (go_at_fn g;refine hc.mono ?_;rintro e w2 ⟨rfl,hg2⟩;have hi2:=hi1.kept (w':=w2) ((zc w1 _ none).andThen hg2 (fun j hj=>by cases hj)) (by simp) (by simp);have hx2:w2.cell? ⟨wr.heap.size,0,none⟩=some (.string kk):=(hg2.cell (by rw[←hs1];simp[go_sem]) (by simp));have hx3:w2.cell? ⟨wr.heap.size,1,none⟩=some (.int .i64 kn):=(hg2.cell (by rw[←hs1];simp[go_sem]) (by simp)))
     | (at_delete;refine Qi _ rfl _ _ 120 54 rfl zdf Tryz.underlying120 w.heap.size b _ _ rfl hi2 ⟨kk,kn⟩ rfl ?_;intro w3 hi3 hg3 hs3;go_frame))
    go_roundw
    case rel=>exact⟨_,by rw[HK.out.2.1 hp];exact hi3,(hgw1.andThen ((zc w1 _ none).andThen hg2 (fun j hj=>by cases hj)) (fun j hj=>by cases hj)).andThen hg3 (fun j hj=>by cases hj;exact Or.inr rfl)⟩
    case measure=>rw[hi3.left,hi.left];exact Nat.lt_of_le_of_lt HK.out.2.2.2 HK.out.2.2.1
theorem delPend (b:Nat) (m:List (ID × xd)) (f:ID→xd→Bool) (g:Nat) (cb:Array Value) (w:World) (eg:∀args w,(callFunc g args).run Tryz.prog w = .ok (.enter g args) w)
  (hm:zw w b zx xw m)
  (hdel:∀(W:World) (k:ID) (v:xd),w.grownBy W (some b)→(k,v)∈m→Calls Tryz.prog g (#[zx k,xw v]++cb) W fun e w'=>e = .returned (.bool (f k v))∧W.grownBy w' none) :
  Calls Tryz.prog 191 #[.map (some b),.func (.func g) #[] cb] w fun e w'=>e = .returned (.tuple #[])∧zw w' b zx xw (m.filter fun p=>!f p.1 p.2)∧w.grownBy w' (some b):=by
 have hnd:=hm.nodup;have HD:=za hdel;have HN:=za hnd;clear hdel hnd
 go_enter Tryz.func191,Tryz.ntmps191
 go_wp2_with (at_range;refine Vq _ rfl _ 119 rfl Tryz.underlying119 b m rfl hm ?_;intro w0 hi0 hg0 hs0)
 go_frame
 go_loopw [8] (fun _ wr=>∃seen,ut wr w.heap.size b zx xw (zaf m f seen) seen∧w.grownBy wr (some b)) (fun _ wr=>zfe wr w.heap.size b)
 case atStart=>exact⟨fun _=>false,by rw[zgn];exact hi0,hg0.but _⟩
 case round=>
  obtain⟨seen,hi,hgw⟩:=hrel
  go_wp2_with (at_next;refine Ui _ rfl _ rfl Vb w.heap.size b _ seen rfl hi ?_ ?_)
  ·intro hall
   go_wp2
   go_end0
   exact⟨rfl,by rw[←zlr hall];exact hi.map,hgw⟩
  ·intro k v w1 ⟨hmem,hsn,hi1,hg1,hs1,hen⟩
   have hin:(k,v)∈m:=(List.mem_filter.1 hmem).1;have hgw1:=hgw.andThen hg1 (fun j hj=>by cases hj;exact Or.inl (Nat.le_refl _))
   have hc:=HD.out ((w1.alloc (.cells #[.string k.key,.int .i64 k.zvz] 54)).alloc (.cells #[.int .i64 v.zvw,.int .i64 v.zvy] 130)) k v (hgw1.andThen (zg (zc w1 _ none) _) (fun j hj=>by cases hj)) hin
   have hst:=zgo (f:=f) (seen:=seen) HN.out hmem;have hsk:=ze5 (f:=f) (seen:=seen) HN.out hmem;have hlt:=Vd (m:=zaf m f seen) (seen:=seen) hmem hsn;have hle:=zix (zaf m f seen) (fun x=>seen x || decide (x=k)) k
   have HK:=za (And.intro hst (And.intro hsk (And.intro hlt hle)));clear hst hsk hlt hle hmem hsn hin;obtain⟨kk,kn⟩:=k;obtain⟨vc,vr⟩:=v;simp only[zx,xw] at hen hc ⊢
   cases hp:f ⟨kk,kn⟩ ⟨vc,vr⟩ <;> rw[hp] at hc
   ·go_wp2_with (go_at_fn g;refine hc.mono ?_;rintro e w2 ⟨rfl,hg2⟩)
    have hi2:=hi1.kept (w':=w2) ((zg (zc w1 _ none) _).andThen hg2 (fun j hj=>by cases hj)) (by simp) (by simp)
    go_roundw
    case rel=>exact⟨_,by rw[HK.out.1 hp];exact hi2,hgw1.andThen ((zg (zc w1 _ none) _).andThen hg2 (fun j hj=>by cases hj)) (fun j hj=>by cases hj)⟩
    case measure=>rw[hi2.left,hi.left];exact HK.out.2.2.1
   ·go_wp2_with (first
     | (go_at_fn g;refine hc.mono ?_;rintro e w2 ⟨rfl,hg2⟩;have hi2:=hi1.kept (w':=w2) ((zg (zc w1 _ none) _).andThen hg2 (fun j hj=>by cases hj)) (by simp) (by simp);have hx2:w2.cell? ⟨wr.heap.size,0,none⟩=some (.string kk):=(hg2.cell (by rw[←hs1];simp[go_sem]) (by simp));have hx3:w2.cell? ⟨wr.heap.size,1,none⟩=some (.int .i64 kn):=(hg2.cell (by rw[←hs1];simp[go_sem]) (by simp)))
     | (at_delete;refine Qi _ rfl _ _ 119 54 rfl zdf Tryz.underlying119 w.heap.size b _ _ rfl hi2 ⟨kk,kn⟩ rfl ?_;intro w3 hi3 hg3 hs3;go_frame))
    go_roundw
    case rel=>exact⟨_,by rw[HK.out.2.1 hp];exact hi3,(hgw1.andThen ((zg (zc w1 _ none) _).andThen hg2 (fun j hj=>by cases hj)) (fun j hj=>by cases hj)).andThen hg3 (fun j hj=>by cases hj;exact Or.inr rfl)⟩
    case measure=>rw[hi3.left,hi.left];exact Nat.lt_of_le_of_lt HK.out.2.2.2 HK.out.2.2.1
section
variable {w : World} {tb : Nat} {T : Tab}
theorem begins1 (k:ID) (v:xd) (bx:Nat) (cl:Int) (W:World) (h2:W.cell? ⟨bx,2,none⟩=some (.int .i64 cl)) :
  Calls Tryz.prog 192 (#[zx k,xw v] ++ #[.pointer (some ⟨bx,0,none⟩)]) W fun e w'=>e = .returned (.bool (decide (v.zvw=cl)))∧W.grownBy w' none:=by
 have hlt:=yo h2;obtain⟨kk,kn⟩:=k;obtain⟨vc,vr⟩:=v;simp only[zx,xw]
 go_enter Tryz.func192,Tryz.ntmps192
 go_wp2
 go_ret
 exact⟨rfl,by repeat (first|exact zd _|exact zc _ _ _|refine zi ?_ _|refine zg ?_ _|refine zf ?_)⟩
def un (T:Tab) (c:Cmd):Bool:=decide ((callV T c.zvw).zvy<c.zvy)
def Zz (T:Tab) (n:Int):List (ID × xd):=T.pending.filter fun p=>!decide (p.2.zvw=n)
def zn9 (T:Tab) (c:Cmd):Tab:=if un T c=true then { T with pending:=Zz T c.zvw } else T
theorem zc5 {T:Tab} {c:Cmd} (h:un T c=true):zn9 T c = { T with pending:=Zz T c.zvw }:=if_pos h
theorem zc4 {T:Tab} {c:Cmd} (h:un T c=false):zn9 T c=T:=if_neg (by rw[h];decide)
def Chg (w w':World) (bs:List Nat):Prop:=w'.os=w.os∧w'.tape=w.tape∧w'.output=w.output∧w.heap.size≤w'.heap.size∧∀k,k<w.heap.size→k ∉ bs→w'.heap[k]? = w.heap[k]?
theorem Chg.refl (w:World) (bs:List Nat):Chg w w bs:=⟨rfl,rfl,rfl,Nat.le_refl _,fun _ _ _=>rfl⟩
theorem Chg.grown {a b c:World} {bs:List Nat} (h:Chg a b bs) (g:b.grownBy c none):Chg a c bs:=
 ⟨g.os.trans h.1,g.tape.trans h.2.1,g.output.trans h.2.2.1,Nat.le_trans h.2.2.2.1 g.size,fun k hk hn=>(g.block k (Nat.lt_of_lt_of_le hk h.2.2.2.1) (by simp)).trans (h.2.2.2.2 k hk hn)⟩
theorem Chg.turned {a b c:World} {bs:List Nat} {r:Nat} (h:Chg a b bs) (g:b.grownBy c (some r)) (hr:r∈bs∨a.heap.size≤r):Chg a c bs:=
 ⟨g.os.trans h.1,g.tape.trans h.2.1,g.output.trans h.2.2.1,Nat.le_trans h.2.2.2.1 g.size,fun k hk hn=>(g.block k (Nat.lt_of_lt_of_le hk h.2.2.2.1) (by
  intro e;cases e;rcases hr with hr|hr
  ·exact hn hr
  ·omega)).trans (h.2.2.2.2 k hk hn)⟩
theorem Chg.trans {a b c:World} {bs cs:List Nat} (h:Chg a b bs) (g:Chg b c cs) (hs:∀x∈cs,x∈bs∨a.heap.size≤x):Chg a c bs:=
 ⟨g.1.trans h.1,g.2.1.trans h.2.1,g.2.2.1.trans h.2.2.1,Nat.le_trans h.2.2.2.1 g.2.2.2.1,fun k hk hn=>(g.2.2.2.2 k (Nat.lt_of_lt_of_le hk h.2.2.2.1) (by
  intro e;rcases hs k e with hr|hr
  ·exact hn hr
  ·omega)).trans (h.2.2.2.2 k hk hn)⟩
theorem Chg.of_grown {a b:World} (g:a.grownBy b none) (bs:List Nat):Chg a b bs:=(Chg.refl a bs).grown g
theorem Chg.block {a b:World} {bs:List Nat} (h:Chg a b bs) {k:Nat} (hk:k<a.heap.size) (hn:k ∉ bs):b.heap[k]? = a.heap[k]?:=h.2.2.2.2 k hk hn
theorem Chg.cell {a b:World} {bs:List Nat} (h:Chg a b bs) {p:Addr} {v:Value} (hv:a.cell? p=some v) (hn:p.block ∉ bs):b.cell? p=some v:=by
 rw[World.cell?_of_block (h.block (yo hv) hn)];exact hv
theorem zcm (h:yh w tb T) (c:Cmd) :
  Calls Tryz.prog 171 #[.pointer (some ⟨tb,0,none⟩),zp c] w fun e w'=>e = .returned (.bool (un T c))∧
   yh w' tb (zn9 T c)∧w.grownBy w' (some T.pb):=by
 have c4:=h.c4;have c6:=h.c6;have htb:=h.tlt;have hc:=h.calls;have hplt:=h.pending.lt;obtain⟨kind,node,zvw,zvx,zvy,zvz,key,code⟩:=c;have hrun:=fun W hW=>yh.run_calls (T:=T) W hW zvw
 have HB:Hid (un T ⟨kind,node,zvw,zvx,zvy,zvz,key,code⟩=decide ((callV T zvw).zvy<zvy)):=(show _=_ from rfl)
 have HT:=za h;clear h;simp only[zp];generalize (callV T zvw).zvy=r1 at *;generalize (callV T zvw).zvz=r2 at *;generalize (callV T zvw).done=r3 at *;generalize (callV T zvw).code=r4 at *
 by_cases hr:zvy≤r1
 ·have hd:decide (r1<zvy)=false:=by simpa using hr
  rw[hd] at HB;clear hd;have hd2:decide (zvy≤r1)=true:=by simpa using hr
  go_enter Tryz.func171,Tryz.ntmps171
  go_wp2;refine zo (by kernel_rfl) (by kernel_rfl) ?_
  repeat (any_goals (first|go_big_quiet_step (fail)|quiet_step (fail)))
  refine wpQuiet_nil ?_;intro _ hw';obtain⟨y,hw''⟩:=hw';subst hw'';go_wp2
  go_ret
  have hg:w.grownBy (ext (w.alloc (.cells #[.int .u8 kind,.int .i64 node,.int .i64 zvw,.int .i64 zvx,.int .i64 zvy,.int .i64 zvz,.string key,.int .i64 code] 24)) y) none:=by repeat (first|exact zd _|exact zc _ _ _|refine zi ?_ _|refine zg ?_ _|refine zf ?_)
  exact⟨by rw[HB.out];rfl,by rw[zc4 HB.out];exact HT.out.grown hg,hg.but _⟩
 ·have hd:decide (r1<zvy)=true:=by simp;omega
  rw[hd] at HB;clear hd;have hd2:decide (zvy≤r1)=false:=by simpa using hr
  go_enter Tryz.func171,Tryz.ntmps171
  go_wp2;refine zo (by kernel_rfl) (by kernel_rfl) ?_
  repeat (any_goals (first|go_big_quiet_step (fail)|quiet_step (fail)))
  refine wpQuiet_nil ?_;intro _ hw';obtain⟨y,hw''⟩:=hw';subst hw'';have hg:w.grownBy (ext (w.alloc (.cells #[.int .u8 kind,.int .i64 node,.int .i64 zvw,.int .i64 zvx,.int .i64 zvy,.int .i64 zvz,.string key,.int .i64 code] 24)) y) none:=by repeat (first|exact zd _|exact zc _ _ _|refine zi ?_ _|refine zg ?_ _|refine zf ?_)
  have eg:∀args w,(callFunc 192 args).run Tryz.prog w = .ok (.enter 192 args) w:=enters_of Tryz.func192 (by kernel_rfl) rfl
  have hdel:=delPend T.pb T.pending (fun _ v=>decide (v.zvw=zvw)) 192 #[.pointer (some ⟨w.heap.size,0,none⟩)] (ext (w.alloc (.cells #[.int .u8 kind,.int .i64 node,.int .i64 zvw,.int .i64 zvx,.int .i64 zvy,.int .i64 zvz,.string key,.int .i64 code] 24)) y) eg ((HT.out.grown hg).pending) (fun W k v hW _=>begins1 k v w.heap.size zvw W (hW.cell (by simp[go_sem]) (by simp;omega)))
  have HD:=za hdel;clear hdel eg
  go_wp2_with (go_at_call 191;refine HD.out.mono ?_;rintro e w1 ⟨rfl,hm1,hg1⟩)
  go_ret
  exact⟨by rw[HB.out];rfl,by rw[zc5 HB.out];exact(HT.out.grown hg).upd_pending hm1 hg1,(hg.but _).andThen hg1 (fun j hj=>by cases hj;exact Or.inr rfl)⟩
end
section
variable {w w1 : World} {tb : Nat} {T : Tab}
theorem yh.upd_next (h:yh w tb T) (n:Int):yh (w.setCell ⟨tb,2,none⟩ (.int .i64 n)) tb { T with next:=n }:=by
 have nd:=h.nodup;simp only[Tab.blocks,List.nodup_cons,List.mem_cons,List.mem_append,List.mem_map,not_or,not_exists,not_and] at nd;have ho:∀b,b≠tb→(w.setCell ⟨tb,2,none⟩ (.int .i64 n)).heap[b]? = w.heap[b]?:=fun b hb=>Below.heap_setCell w _ _ b hb
 exact {
  cells:=by
   have:=h.cells;simp only[World.setCell,Array.getElem?_modify,if_true,this];simp[Tab.cells]
  zv0:=(ho T.lb (Ne.symm nd.1.1)).trans h.zv0
  calls:=h.calls.same (ho T.cb (Ne.symm nd.1.2.1))
  values:=h.values.same (ho T.vb (Ne.symm nd.1.2.2.1))
  pending:=h.pending.same (ho T.pb (Ne.symm nd.1.2.2.2.1))
  holds:=h.holds.same (ho T.hb (Ne.symm nd.1.2.2.2.2.1))
  zv2:=h.zv2.same (ho T.rb (Ne.symm nd.1.2.2.2.2.2.1))
  hsets:=fun x hx=>zw.same (h.hsets x hx) (ho x.2.blk (nd.1.2.2.2.2.2.2.1 x hx))
  rsets:=fun x hx=>zw.same (h.rsets x hx) (ho x.2.blk (nd.1.2.2.2.2.2.2.2 x hx))
  nodup:=h.nodup }
theorem yh.upd_offers (h:yh w tb T) (n:Int):yh (w.setCell ⟨tb,1,none⟩ (.int .i64 n)) tb { T with offers:=n }:=by
 have nd:=h.nodup;simp only[Tab.blocks,List.nodup_cons,List.mem_cons,List.mem_append,List.mem_map,not_or,not_exists,not_and] at nd;have ho:∀b,b≠tb→(w.setCell ⟨tb,1,none⟩ (.int .i64 n)).heap[b]? = w.heap[b]?:=fun b hb=>Below.heap_setCell w _ _ b hb
 exact {
  cells:=by
   have:=h.cells;simp only[World.setCell,Array.getElem?_modify,if_true,this];simp[Tab.cells]
  zv0:=(ho T.lb (Ne.symm nd.1.1)).trans h.zv0
  calls:=h.calls.same (ho T.cb (Ne.symm nd.1.2.1))
  values:=h.values.same (ho T.vb (Ne.symm nd.1.2.2.1))
  pending:=h.pending.same (ho T.pb (Ne.symm nd.1.2.2.2.1))
  holds:=h.holds.same (ho T.hb (Ne.symm nd.1.2.2.2.2.1))
  zv2:=h.zv2.same (ho T.rb (Ne.symm nd.1.2.2.2.2.2.1))
  hsets:=fun x hx=>zw.same (h.hsets x hx) (ho x.2.blk (nd.1.2.2.2.2.2.2.1 x hx))
  rsets:=fun x hx=>zw.same (h.rsets x hx) (ho x.2.blk (nd.1.2.2.2.2.2.2.2 x hx))
  nodup:=h.nodup }
theorem Chg.setCell {a b:World} {bs:List Nat} (h:Chg a b bs) (p:Addr) (v:Value) (hr:p.block∈bs∨a.heap.size≤p.block):Chg a (b.setCell p v) bs:=
 ⟨h.1,h.2.1,h.2.2.1,Nat.le_trans h.2.2.2.1 (by simp[World.setCell]),fun k hk hn=>(Below.heap_setCell b p v k (by
  intro e;subst e;rcases hr with hr|hr
  ·exact hn hr
  ·omega)).trans (h.2.2.2.2 k hk hn)⟩
theorem zrw (h:yh w tb T) (c:Cmd) (h0:0≤T.offers) (h1:T.offers<4611686018427387904) :
  Calls Tryz.prog 129 #[.pointer (some ⟨tb,0,none⟩),zp c] w fun e w'=>e = .returned (.tuple #[])∧
   yh w' tb { T with offers:=T.offers+1 }∧Chg w w' (T.blocks tb):=by
 have c1:=h.c1;have f1:=h.free 1;have htb:=h.tlt;have HT:=za h;clear h;obtain⟨kind,node,zvw,zvx,zvy,zvz,key,code⟩:=c;simp only[zp];generalize hno:T.offers=no at *;have HN:=za hno;clear hno
 go_enter Tryz.func129,Tryz.ntmps129
 go_wp2
 go_end0
 refine⟨rfl,?_,?_⟩
 ·exact(HT.out.upd_offers _).grown (zc _ _ none)
 ·exact((Chg.refl w (T.blocks tb)).setCell ⟨tb,1,none⟩ _ (Or.inl (by simp[Tab.blocks]))).grown (zc _ _ none)
def Va (T:Tab) (c:Cmd):Tab:=
 if un T c=true then { T with pending:=ym (Zz T c.zvw) ⟨c.key,T.next⟩ ⟨c.zvw,c.zvy⟩,calls:=ym T.calls c.zvw ⟨c.zvy,T.next,false,0⟩,next:=T.next+1 } else T
theorem zs3 {T:Tab} {c:Cmd} (h:un T c=true):Va T c = { T with pending:=ym (Zz T c.zvw) ⟨c.key,T.next⟩ ⟨c.zvw,c.zvy⟩,calls:=ym T.calls c.zvw ⟨c.zvy,T.next,false,0⟩,next:=T.next+1 }:=if_pos h
theorem zs2 {T:Tab} {c:Cmd} (h:un T c=false):Va T c=T:=if_neg (by rw[h];decide)
set_option maxRecDepth 100000 in
theorem zqw (h:yh w tb T) (c:Cmd) (h0:0≤T.next) (h1:T.next<4611686018427387904) :
  Calls Tryz.prog 131 #[.pointer (some ⟨tb,0,none⟩),zp c] w fun e w'=>e = .returned (.tuple #[])∧
   yh w' tb (Va T c)∧Chg w w' (T.blocks tb):=by
 have htb:=h.tlt;have HT:=za h;clear h;obtain⟨kind,node,zvw,zvx,zvy,zvz,key,code⟩:=c;generalize hW0:w.alloc (.cells #[.int .u8 kind,.int .i64 node,.int .i64 zvw,.int .i64 zvx,.int .i64 zvy,.int .i64 zvz,.string key,.int .i64 code] 24)=W0;have hbeg:=zcm (HT.out.grown (zc w (.cells #[.int .u8 kind,.int .i64 node,.int .i64 zvw,.int .i64 zvx,.int .i64 zvy,.int .i64 zvz,.string key,.int .i64 code] 24) none)) ⟨kind,node,zvw,zvx,zvy,zvz,key,code⟩;simp only[zp] at hbeg ⊢;have HBEG:=za hbeg;clear hbeg;clear hW0
 cases hb:un T ⟨kind,node,zvw,zvx,zvy,zvz,key,code⟩
 ·have HB:=za hb
  clear hb
  go_enter Tryz.func131,Tryz.ntmps131
  go_wp2_with (go_at_call 171;refine HBEG.out.mono ?_;rintro e w1 ⟨rfl,hT1,hg1⟩;rw[HB.out])
  refine bodyPost_ret (results_none rfl _ _ _) rfl ?_
  exact⟨rfl,by rw[zs2 HB.out];rw[zc4 HB.out] at hT1;exact hT1,((Chg.of_grown (zc w _ none) (T.blocks tb)).turned hg1 (Or.inl (by simp[Tab.blocks])))⟩
 ·have HB:=za hb
  clear hb
  go_enter Tryz.func131,Tryz.ntmps131
  go_wp2_with (go_at_call 171;refine HBEG.out.mono ?_;rintro e w1 ⟨rfl,hT1,hg1⟩;rw[HB.out])
  rw[zc5 HB.out] at hT1;have htb1:=hT1.tlt;have k2:=hT1.c2;have k4:=hT1.c4;have k6:=hT1.c6;have hpend:=hT1.pending;have hW:(w.alloc (.cells #[.int .u8 kind,.int .i64 node,.int .i64 zvw,.int .i64 zvx,.int .i64 zvy,.int .i64 zvz,.string key,.int .i64 code] 24)).heap.size=w.heap.size+1:=by simp
  have hpb:w.heap.size≠T.pb:=by have:=HT.out.pending.lt;omega
  have x2:w1.cell? ⟨w.heap.size,2,none⟩=some (.int .i64 zvw):=hg1.cell (by simp[go_sem]) (by simpa using hpb)
  have x4:w1.cell? ⟨w.heap.size,4,none⟩=some (.int .i64 zvy):=hg1.cell (by simp[go_sem]) (by simpa using hpb)
  have x6:w1.cell? ⟨w.heap.size,6,none⟩=some (.string key):=hg1.cell (by simp[go_sem]) (by simpa using hpb)
  have H1:=za hT1;clear hT1 hW;simp only at k2 k4 k6 hpend
  go_still_tail 16,(by kernel_rfl)
  go_wp2_with (at_mapUpdate;refine vt _ rfl _ _ _ 119 rfl zdf Tryz.underlying119 T.pb _ rfl ((Zn _).2 hpend) ⟨key,T.next⟩ ⟨zvw,zvy⟩ rfl rfl ?_;intro w2 hm2 hg2 hs2)
  have H2:=(H1.out.grown (zf (zd w1))).upd_pending hm2 hg2;have l2:=H2.c2;have l4:=H2.c4;have hcalls:=H2.calls;have y2:w2.cell? ⟨w.heap.size,2,none⟩=some (.int .i64 zvw):=hg2.cell x2 (by simpa using hpb)
  have y4:w2.cell? ⟨w.heap.size,4,none⟩=some (.int .i64 zvy):=hg2.cell x4 (by simpa using hpb)
  have htb2:=H2.tlt;have H2':=za H2;clear H2 hm2 hpend x2 x4 x6 k2 k4 k6;simp only at l2 l4 hcalls
  go_still_tail 13,(by kernel_rfl)
  go_wp2_with (at_mapUpdate;refine vt _ rfl _ _ _ 117 rfl Qn Tryz.underlying117 T.cb _ rfl ((Zn _).2 hcalls) zvw ⟨zvy,T.next,false,0⟩ rfl rfl ?_;intro w3 hm3 hg3 hs3;have H3:=(H2'.out.grown (zf (zd w2))).upd_calls hm3 hg3;have m2:=H3.c2;have fr2:=H3.free 2;simp only at m2;have H3':=za H3;clear H3 hm3)
  go_end0
  refine⟨rfl,?_,?_⟩
  ·rw[zs3 HB.out];exact H3'.out.upd_next _
  ·have d1:=(Chg.of_grown (zc w _ none) (T.blocks tb)).turned hg1 (Or.inl (by simp[Tab.blocks]))
   have d2:=(d1.grown (zf (zd w1))).turned hg2 (Or.inl (by simp[Tab.blocks]))
   have d3:=(d2.grown (zf (zd w2))).turned hg3 (Or.inl (by simp[Tab.blocks]))
   exact d3.setCell ⟨tb,2,none⟩ _ (Or.inl (by simp[Tab.blocks]))
def jz (T:Tab) (c:Cmd):Tab:=
 if un T c=true then { T with pending:=Zz T c.zvw,values:=ym T.values c.key ⟨T.next,true⟩,calls:=ym T.calls c.zvw ⟨c.zvy,0,true,0⟩,next:=T.next+1 } else T
theorem zpc {T:Tab} {c:Cmd} (h:un T c=true):jz T c = { T with pending:=Zz T c.zvw,values:=ym T.values c.key ⟨T.next,true⟩,calls:=ym T.calls c.zvw ⟨c.zvy,0,true,0⟩,next:=T.next+1 }:=if_pos h
theorem zpb {T:Tab} {c:Cmd} (h:un T c=false):jz T c=T:=if_neg (by rw[h];decide)
def qy (T:Tab) (c:Cmd):Tab:=
 if un T c=true then { T with pending:=Zz T c.zvw,calls:=ym T.calls c.zvw ⟨c.zvy,0,true,c.code⟩ } else T
theorem znh {T:Tab} {c:Cmd} (h:un T c=true):qy T c = { T with pending:=Zz T c.zvw,calls:=ym T.calls c.zvw ⟨c.zvy,0,true,c.code⟩ }:=if_pos h
theorem zng {T:Tab} {c:Cmd} (h:un T c=false):qy T c=T:=if_neg (by rw[h];decide)
set_option maxRecDepth 100000 in
theorem zpa (h:yh w tb T) (c:Cmd) (h0:0≤T.next) (h1:T.next<4611686018427387904) :
  Calls Tryz.prog 134 #[.pointer (some ⟨tb,0,none⟩),zp c] w fun e w'=>e = .returned (.tuple #[])∧
   yh w' tb (jz T c)∧Chg w w' (T.blocks tb):=by
 have htb:=h.tlt;have HT:=za h;clear h;obtain⟨kind,node,zvw,zvx,zvy,zvz,key,code⟩:=c;generalize hW0:w.alloc (.cells #[.int .u8 kind,.int .i64 node,.int .i64 zvw,.int .i64 zvx,.int .i64 zvy,.int .i64 zvz,.string key,.int .i64 code] 24)=W0;have hbeg:=zcm (HT.out.grown (zc w (.cells #[.int .u8 kind,.int .i64 node,.int .i64 zvw,.int .i64 zvx,.int .i64 zvy,.int .i64 zvz,.string key,.int .i64 code] 24) none)) ⟨kind,node,zvw,zvx,zvy,zvz,key,code⟩;simp only[zp] at hbeg ⊢;have HBEG:=za hbeg;clear hbeg;clear hW0
 cases hb:un T ⟨kind,node,zvw,zvx,zvy,zvz,key,code⟩
 ·have HB:=za hb
  clear hb
  go_enter Tryz.func134,Tryz.ntmps134
  go_wp2_with (go_at_call 171;refine HBEG.out.mono ?_;rintro e w1 ⟨rfl,hT1,hg1⟩;rw[HB.out])
  go_end0
  exact⟨rfl,by rw[zpb HB.out];rw[zc4 HB.out] at hT1;exact hT1,((Chg.of_grown (zc w _ none) (T.blocks tb)).turned hg1 (Or.inl (by simp[Tab.blocks])))⟩
 ·have HB:=za hb
  clear hb
  go_enter Tryz.func134,Tryz.ntmps134
  go_wp2_with (go_at_call 171;refine HBEG.out.mono ?_;rintro e w1 ⟨rfl,hT1,hg1⟩;rw[HB.out])
  rw[zc5 HB.out] at hT1;have htb1:=hT1.tlt;have k2:=hT1.c2;have k4:=hT1.c4;have k6:=hT1.c5;have hpend:=hT1.values;have hW:(w.alloc (.cells #[.int .u8 kind,.int .i64 node,.int .i64 zvw,.int .i64 zvx,.int .i64 zvy,.int .i64 zvz,.string key,.int .i64 code] 24)).heap.size=w.heap.size+1:=by simp
  have hpb:w.heap.size≠T.pb:=by have:=HT.out.pending.lt;omega
  have hvb:w.heap.size≠T.vb:=by have:=HT.out.values.lt;omega
  have x2:w1.cell? ⟨w.heap.size,2,none⟩=some (.int .i64 zvw):=hg1.cell (by simp[go_sem]) (by simpa using hpb)
  have x4:w1.cell? ⟨w.heap.size,4,none⟩=some (.int .i64 zvy):=hg1.cell (by simp[go_sem]) (by simpa using hpb)
  have x6:w1.cell? ⟨w.heap.size,6,none⟩=some (.string key):=hg1.cell (by simp[go_sem]) (by simpa using hpb)
  have H1:=za hT1;clear hT1 hW;simp only at k2 k4 k6 hpend
  go_still_tail 11,(by kernel_rfl)
  go_wp2_with (at_mapUpdate;refine vt _ rfl _ _ _ 118 rfl zma Tryz.underlying118 T.vb _ rfl ((Zn _).2 hpend) key ⟨T.next,true⟩ rfl rfl ?_;intro w2 hm2 hg2 hs2)
  have H2:=(H1.out.grown (zf (zd w1))).upd_values hm2 hg2;have l2:=H2.c2;have l4:=H2.c4;have hcalls:=H2.calls;have y2:w2.cell? ⟨w.heap.size,2,none⟩=some (.int .i64 zvw):=hg2.cell x2 (by simpa using hvb)
  have y4:w2.cell? ⟨w.heap.size,4,none⟩=some (.int .i64 zvy):=hg2.cell x4 (by simpa using hvb)
  have htb2:=H2.tlt;have H2':=za H2;clear H2 hm2 hpend x2 x4 x6 k2 k4 k6;simp only at l2 l4 hcalls
  go_still_tail 9,(by kernel_rfl)
  go_wp2_with (at_mapUpdate;refine vt _ rfl _ _ _ 117 rfl Qn Tryz.underlying117 T.cb _ rfl ((Zn _).2 hcalls) zvw ⟨zvy,0,true,0⟩ rfl rfl ?_;intro w3 hm3 hg3 hs3;have H3:=(H2'.out.grown (zf (zd w2))).upd_calls hm3 hg3;have m2:=H3.c2;have fr2:=H3.free 2;simp only at m2;have H3':=za H3;clear H3 hm3)
  go_end0
  refine⟨rfl,?_,?_⟩
  ·rw[zpc HB.out];exact H3'.out.upd_next _
  ·have d1:=(Chg.of_grown (zc w _ none) (T.blocks tb)).turned hg1 (Or.inl (by simp[Tab.blocks]))
   have d2:=(d1.grown (zf (zd w1))).turned hg2 (Or.inl (by simp[Tab.blocks]))
   have d3:=(d2.grown (zf (zd w2))).turned hg3 (Or.inl (by simp[Tab.blocks]))
   exact d3.setCell ⟨tb,2,none⟩ _ (Or.inl (by simp[Tab.blocks]))
set_option maxRecDepth 100000 in
theorem zo9 (h:yh w tb T) (c:Cmd) :
  Calls Tryz.prog 135 #[.pointer (some ⟨tb,0,none⟩),zp c] w fun e w'=>e = .returned (.tuple #[])∧
   yh w' tb (qy T c)∧Chg w w' (T.blocks tb):=by
 have htb:=h.tlt;have HT:=za h;clear h;obtain⟨kind,node,zvw,zvx,zvy,zvz,key,code⟩:=c;generalize hW0:w.alloc (.cells #[.int .u8 kind,.int .i64 node,.int .i64 zvw,.int .i64 zvx,.int .i64 zvy,.int .i64 zvz,.string key,.int .i64 code] 24)=W0;have hbeg:=zcm (HT.out.grown (zc w (.cells #[.int .u8 kind,.int .i64 node,.int .i64 zvw,.int .i64 zvx,.int .i64 zvy,.int .i64 zvz,.string key,.int .i64 code] 24) none)) ⟨kind,node,zvw,zvx,zvy,zvz,key,code⟩;simp only[zp] at hbeg ⊢;have HBEG:=za hbeg;clear hbeg;clear hW0
 cases hb:un T ⟨kind,node,zvw,zvx,zvy,zvz,key,code⟩
 ·have HB:=za hb
  clear hb
  go_enter Tryz.func135,Tryz.ntmps135
  go_wp2_with (go_at_call 171;refine HBEG.out.mono ?_;rintro e w1 ⟨rfl,hT1,hg1⟩;rw[HB.out])
  go_end0
  exact⟨rfl,by rw[zng HB.out];rw[zc4 HB.out] at hT1;exact hT1,((Chg.of_grown (zc w _ none) (T.blocks tb)).turned hg1 (Or.inl (by simp[Tab.blocks])))⟩
 ·have HB:=za hb
  clear hb
  go_enter Tryz.func135,Tryz.ntmps135
  go_wp2_with (go_at_call 171;refine HBEG.out.mono ?_;rintro e w1 ⟨rfl,hT1,hg1⟩;rw[HB.out])
  rw[zc5 HB.out] at hT1;have htb1:=hT1.tlt;have k2:=hT1.c2;have k4:=hT1.c4;have k6:=hT1.c6;have hpend:=hT1.pending;have hW:(w.alloc (.cells #[.int .u8 kind,.int .i64 node,.int .i64 zvw,.int .i64 zvx,.int .i64 zvy,.int .i64 zvz,.string key,.int .i64 code] 24)).heap.size=w.heap.size+1:=by simp
  have hpb:w.heap.size≠T.pb:=by have:=HT.out.pending.lt;omega
  have x2:w1.cell? ⟨w.heap.size,2,none⟩=some (.int .i64 zvw):=hg1.cell (by simp[go_sem]) (by simpa using hpb)
  have x4:w1.cell? ⟨w.heap.size,4,none⟩=some (.int .i64 zvy):=hg1.cell (by simp[go_sem]) (by simpa using hpb)
  have x7:w1.cell? ⟨w.heap.size,7,none⟩=some (.int .i64 code):=hg1.cell (by simp[go_sem]) (by simpa using hpb)
  have x6:w1.cell? ⟨w.heap.size,6,none⟩=some (.string key):=hg1.cell (by simp[go_sem]) (by simpa using hpb)
  have H1:=za hT1;clear hT1 hW;simp only at k2 k4 k6 hpend;have hcalls:=H1.out.calls;simp only at hcalls
  go_still_tail 11,(by kernel_rfl)
  go_wp2_with (at_mapUpdate;refine vt _ rfl _ _ _ 117 rfl Qn Tryz.underlying117 T.cb _ rfl ((Zn _).2 hcalls) zvw ⟨zvy,0,true,code⟩ rfl rfl ?_;intro w3 hm3 hg3 hs3;have H3:=(H1.out.grown (zf (zd w1))).upd_calls hm3 hg3;have H3':=za H3;clear H3 hm3)
  go_end0
  refine⟨rfl,?_,?_⟩
  ·rw[znh HB.out];exact H3'.out
  ·have d1:=(Chg.of_grown (zc w _ none) (T.blocks tb)).turned hg1 (Or.inl (by simp[Tab.blocks]))
   exact(d1.grown (zf (zd w1))).turned hg3 (Or.inl (by simp[Tab.blocks]))
end
end Go.Proofs.YtjfelfjobeeenaaGreat
