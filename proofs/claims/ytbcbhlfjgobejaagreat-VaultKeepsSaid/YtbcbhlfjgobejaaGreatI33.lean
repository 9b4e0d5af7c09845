/- A vault in memory: how it lies; Life, Free, Broken, met: the walks. Conditions: none, or as the theorems say. -/
import Derived.Test.YtbcbhlfjgobejaaGreatI32
import Derived.Test.YtbcbhlfjgobejaaGreatI20
import Derived.RangeFuncNested
import Derived.RangeFuncLeaves
import Derived.Test.YtbcbhlfjgobejaaGreatI22
import Derived.Test.YtbcbhlfjgobejaaGreatI27
import Derived.Test.YtbcbhlfjgobejaaGreatI1
set_option linter.unusedSimpArgs false
set_option linter.unusedVariables false
namespace Go.Proofs.YtbcbhlfjgobejaaGreat
set_option maxHeartbeats 200000000
open Go.RowKit Go.Sf Go.Shelf
attribute [local go_sem] Oper.semAt_some
theorem zc8 (a b:VID) (h:yu a=yu b):a=b:=by
 cases a;cases b;simp[yu] at h;simp[h]
theorem checkID (em:Bool) (k:VID) (w:World):(Instr.checkKey em 10000 109 (yu k)).run Tryz.prog w = .ok () w:=by
 cases k;kernel_rfl
theorem Vz (k k':ByteArray):(k.toList == k'.toList)=decide (k=k'):=by
 rw[Bool.eq_iff_iff,decide_eq_true_iff,beq_iff_eq,ByteArray.toList_eq,ByteArray.toList_eq]
 exact⟨fun h=>ByteArray.ext (Array.ext' h),fun h=>by rw[h]⟩
theorem equalID (a b:VID) (w:World):(Op.equal 109 (yu a) (yu b)).run Tryz.prog w = .ok (decide (a=b)) w:=by
 obtain⟨k,n⟩:=a;obtain⟨k',n'⟩:=b;simp[Op.equal,Op.maxDepth,yu,go_sem,Vz]
 by_cases e1:k=k' <;> by_cases e2:n=n' <;> simp[e1,e2]
theorem zhk (k:ByteArray):(k == k)=true:=by rw[beq_toListBytes];simp
theorem sameID (k:VID):Instr.sameBits 10000 (yu k) (yu k)=true:=by
 cases k;simp[yu,Instr.sameBits,zhk]
theorem keID:Qf Tryz.prog 109 yu:=zdh (by kernel_rfl) checkID sameID zc8 equalID
structure KpM where
 pk:Option Addr
 ck:Nat
 pr:Option Addr
 cr:Nat
 s:ShM
 k:Int
def uw (x:KpM):Value:=.agg #[.slice x.pk x.s.key.length x.ck,.int .i64 x.s.znm,.int .i64 x.s.node,.slice x.pr x.s.row.length x.cr,.int .i64 x.k]
def qc:Value:=.agg #[.slice none 0 0,.int .i64 0,.int .i64 0,.slice none 0 0,.int .i64 0]
theorem Zh (w:World):(zeroValue 226).run Tryz.prog w = .ok qc w:=by kernel_rfl
structure Vlt where
 S:Sto
 life:Int
 at_:Int
 sh:List (VID × (ShM × Int))
 broken:Int
structure Jl (P:Nat→Prop) (W:World) (x:KpM):Prop where
 key:ye P W (.slice x.pk x.s.key.length x.ck) (zi x.s.key)
 row:ye P W (.slice x.pr x.s.row.length x.cr) (zi x.s.row)
 may:ze3 x.s
 bl:BL x.s.key∧BL x.s.row
theorem Jl.turn {P:Nat→Prop} {W W':World} {x:KpM} (h:Jl P W x) (hs:∀k,P k→W'.heap[k]? = W.heap[k]?):Jl P W' x:=⟨ye.turn h.1 hs,ye.turn h.2 hs,h.3,h.4⟩
theorem Jl.mono {P Q:Nat→Prop} {W:World} {x:KpM} (h:Jl P W x) (hs:∀k,P k→Q k):Jl Q W x:=⟨h.1.mono hs,h.2.mono hs,h.3,h.4⟩
structure VAt (own:Nat→Prop) (W:World) (vb st db mb:Nat) (km:List (VID × KpM)) (vk:Nat→Prop) (V:Vlt):Prop where
 box:W.heap[vb]? = some (.cells #[.pointer (some ⟨st,0,none⟩),.int .i64 V.life,.int .i64 V.at_,.map (some mb),.int .i64 V.broken] 224 (0,0))
 sr:Zc (fun k=>own k∨vk k) W st db V.S
 mp:yg W mb yu uw km
 rows:∀p∈km,Jl (fun k=>vk k∧k≠vb∧k≠mb) W p.2
 she:V.sh=km.map fun p=>(p.1,(p.2.s,p.2.k))
 vvb:vk vb
 vmb:vk mb
 ap:∀k,own k→¬vk k
section
variable {own own' : Nat → Prop} {W W' : World} {vb st db mb : Nat} {km : List (VID × KpM)} {vk : Nat → Prop} {V : Vlt} {S' : Sto}
theorem VAt.vlt (h:VAt own W vb st db mb km vk V) {k:Nat} (hk:vk k):k<W.heap.size:=h.sr.own_lt (Or.inr hk)
theorem VAt.olt (h:VAt own W vb st db mb km vk V) {k:Nat} (hk:own k):k<W.heap.size:=h.sr.own_lt (Or.inl hk)
theorem VAt.ne (h:VAt own W vb st db mb km vk V):vb≠mb:=fun e=>by
 have h1:=h.box;rw[e] at h1;obtain⟨es,c,h2,-⟩:=h.mp;rw[h1] at h2
 cases h2
theorem VAt.store (h:VAt own W vb st db mb km vk V) (hs:Zc (fun k=>own k∨vk k) W' st db S') (ht:zq (fun k=>¬(own k∨vk k)) W W'):VAt own W' vb st db mb km vk { V with S:=S' }:=
 have hb:∀k,vk k→W'.heap[k]? = W.heap[k]?:=fun k hk=>ht.block k (h.vlt hk) (fun e=>e (Or.inr hk))
 ⟨(hb vb h.vvb).trans h.box,hs,h.mp.same (hb mb h.vmb),fun p hp=>(h.rows p hp).turn fun k hk=>hb k hk.1,h.she,h.vvb,h.vmb,h.ap⟩
theorem VAt.grown (h:VAt own W vb st db mb km vk V) (hg:W.grownBy W' none):VAt own W' vb st db mb km vk V:=
 h.store (h.sr.kept hg) (yl hg)
theorem VAt.oth (h:VAt own W vb st db mb km vk V) (ht:zq own W W') (h1:∀k,own' k→own k∨W.heap.size≤k) (h2:∀k,own' k→k<W'.heap.size):VAt own' W' vb st db mb km vk V:=
 have hb:∀k,vk k→W'.heap[k]? = W.heap[k]?:=fun k hk=>ht.block k (h.vlt hk) (fun e=>h.ap k e hk)
 ⟨(hb vb h.vvb).trans h.box,h.sr.othJ (ht.mono fun k hk=>Or.inl hk) (fun k hk=>by
  rcases hk with e|e
  ·exact(h1 k e).imp Or.inl id
  ·exact Or.inl (Or.inr e)) (fun k hk=>hk.elim (h2 k) fun e=>Nat.lt_of_lt_of_le (h.vlt e) ht.size),h.mp.same (hb mb h.vmb),fun p hp=>(h.rows p hp).turn fun k hk=>hb k hk.1,h.she,h.vvb,h.vmb,fun k hk e=>by
  rcases h1 k hk with e2|e2
  ·exact h.ap k e2 e
  ·have:=h.vlt e;omega⟩
theorem VAt.cells (h:VAt own W vb st db mb km vk V):W.cell? ⟨vb,0,none⟩=some (.pointer (some ⟨st,0,none⟩))∧W.cell? ⟨vb,1,none⟩=some (.int .i64 V.life)∧W.cell? ⟨vb,2,none⟩=some (.int .i64 V.at_)∧W.cell? ⟨vb,3,none⟩=some (.map (some mb))∧W.cell? ⟨vb,4,none⟩=some (.int .i64 V.broken)∧∀i,W.frozen? ⟨vb,i,none⟩=false:=by
 have hb:=h.box;refine⟨?_,?_,?_,?_,?_,fun i=>?_⟩ <;> simp[World.cell?,World.frozen?,hb]
theorem VAt.set (h:VAt own W vb st db mb km vk V) (i:Nat) (v:Value) (V':Vlt) (hb:(#[.pointer (some ⟨st,0,none⟩),.int .i64 V.life,.int .i64 V.at_,.map (some mb),.int .i64 V.broken]:Array Value).setIfInBounds i v = #[.pointer (some ⟨st,0,none⟩),.int .i64 V'.life,.int .i64 V'.at_,.map (some mb),.int .i64 V'.broken])
  (e1:V'.S=V.S) (e2:V'.sh=V.sh):VAt own (W.setCell ⟨vb,i,none⟩ v) vb st db mb km vk V'∧zq (fun k=>¬own k) W (W.setCell ⟨vb,i,none⟩ v):=by
 have hs:=yb W vb i v;have ht:zq (fun k=>own k∨vk k) W (W.setCell ⟨vb,i,none⟩ v):=(yt W vb i v).mono fun k hk=>by rw[hk];exact Or.inr h.vvb
 refine⟨⟨?_,?_,h.mp.kept hs (fun e=>h.ne (Option.some.inj e).symm),fun p hp=>?_,e2.trans h.she,h.vvb,h.vmb,h.ap⟩,(yt W vb i v).mono fun k hk e=>?_⟩
 ·simp only[World.setCell,Array.getElem?_modify,h.box,if_true,Option.map_some]
  rw[hb]
  rfl
 ·rw[e1]
  exact h.sr.othJ ht (fun k hk=>Or.inl hk) (fun k hk=>Nat.lt_of_lt_of_le (h.sr.own_lt hk) hs.size)
 ·exact(h.rows p hp).turn fun k hk=>hs.block k (h.vlt hk.1) (fun e=>hk.2.1 (Option.some.inj e))
 ·rw[hk] at e
  exact h.ap _ e h.vvb
theorem VAt.map {w1:World} {km':List (VID × KpM)} {V':Vlt} (h:VAt own W vb st db mb km vk V) (hg:W.grownBy w1 none) (hg2:w1.grownBy W' (some mb)) (hz:W'.heap.size=w1.heap.size) (hm:yg W' mb yu uw km') (hr:∀p∈km',p∈km∨Jl (fun k=>W.heap.size≤k∧k<w1.heap.size) w1 p.2)
  (he:V'.sh=km'.map fun p=>(p.1,(p.2.s,p.2.k))) (e1:V'.S=V.S) (e2:V'.life=V.life∧V'.at_=V.at_∧V'.broken=V.broken):VAt own W' vb st db mb km' (fun k=>vk k∨(W.heap.size≤k∧k<w1.heap.size)) V'∧zq (fun k=>¬own k) W W':=by
 have hml:=h.vlt h.vmb;have hvl:=h.vlt h.vvb;have z1:=hg.size;have hb:∀k,k<w1.heap.size→k≠mb→W'.heap[k]? = w1.heap[k]?:=fun k hk e=>hg2.block k hk (fun e2=>e (Option.some.inj e2))
 have hb0:∀k,k<W.heap.size→k≠mb→W'.heap[k]? = W.heap[k]?:=fun k hk e=>(hb k (by omega) e).trans (hg.block k hk (by simp))
 have ht:zq (fun k=>own k∨vk k) W W':=⟨hg2.os.trans hg.os,hg2.tape.trans hg.tape,hg2.output.trans hg.output,by omega,fun k hk hn=>hb0 k hk (fun e=>hn (Or.inr (by rw[e];exact h.vmb)))⟩
 refine⟨⟨?_,?_,hm,fun p hp=>?_,he,Or.inl h.vvb,Or.inl h.vmb,fun k hk e=>?_⟩,⟨ht.os,ht.tape,ht.output,ht.size,fun k hk hn=>hb0 k hk (fun e=>h.ap k (Classical.byContradiction hn) (by rw[e];exact h.vmb))⟩⟩
 ·rw[hb0 vb hvl h.ne,h.box,e2.1,e2.2.1,e2.2.2]
 ·rw[e1]
  exact h.sr.othJ ht (fun k hk=>by
   rcases hk with e|e|e
   ·exact Or.inl (Or.inl e)
   ·exact Or.inl (Or.inr e)
   ·exact Or.inr e.1) (fun k hk=>by
   rcases hk with e|e|e
   ·have:=h.olt e;omega
   ·have:=h.vlt e;omega
   ·omega)
 ·rcases hr p hp with hq|hq
  ·exact((h.rows p hq).turn fun k hk=>hb0 k (h.vlt hk.1) hk.2.2).mono fun k hk=>⟨Or.inl hk.1,hk.2.1,hk.2.2⟩
  ·exact(hq.turn fun k hk=>hb k hk.2 (by omega)).mono fun k hk=>⟨Or.inr hk,by omega,by omega⟩
 ·rcases e with e|e
  ·exact h.ap k hk e
  ·have:=h.olt hk;omega
set_option maxRecDepth 100000 in
theorem zew (h:VAt own W vb st db mb km vk V):Calls Tryz.prog 79 #[.pointer (some ⟨vb,0,none⟩)] W fun e w'=>e = .returned (.int .i64 V.broken)∧w'=W:=by
 obtain⟨c0,c1,c2,c3,c4,y⟩:=h.cells;clear h
 go_enter Tryz.func79,Tryz.ntmps79
 go_wp2
 go_ret
 exact⟨rfl,rfl⟩
set_option maxRecDepth 100000 in
theorem vlife (h:VAt own W vb st db mb km vk V):Calls Tryz.prog 76 #[.pointer (some ⟨vb,0,none⟩)] W fun e w'=>e = .returned (.int .i64 V.life)∧w'=W:=by
 obtain⟨c0,c1,c2,c3,c4,y⟩:=h.cells;clear h
 go_enter Tryz.func76,Tryz.ntmps76
 go_wp2
 go_ret
 exact⟨rfl,rfl⟩
def Vlt.met (V:Vlt) (e:Int):Vlt:=if e=180 then { V with broken:=180 } else V
set_option maxRecDepth 100000 in
theorem vmet (h:VAt own W vb st db mb km vk V) (e:Int):Calls Tryz.prog 135 #[.pointer (some ⟨vb,0,none⟩),.int .i64 e] W fun e' w'=>e' = .returned (.int .i64 e)∧VAt own w' vb st db mb km vk (V.met e)∧zq (fun k=>¬own k) W w':=by
 obtain⟨c0,c1,c2,c3,c4,y⟩:=h.cells;have HS:=zd (h.set 4 (.int .i64 180) { V with broken:=180 } rfl rfl rfl)
 have H0:=zd h;clear h;unfold Vlt.met
 by_cases he:e=180
 ·subst he
  go_enter Tryz.func135,Tryz.ntmps135
  go_wp2
  go_ret
  exact⟨rfl,HS.out.1,HS.out.2⟩
 ·rw[if_neg he]
  go_enter Tryz.func135,Tryz.ntmps135
  go_wp2
  go_ret
  exact⟨rfl,H0.out,zq.refl _ _⟩
end
end Go.Proofs.YtbcbhlfjgobejaaGreat
namespace Go.Sf
open Go.RowKit Go
variable {F : Fence} {n : Nat} {P : Program}
end Go.Sf
namespace Go.Proofs.YtbcbhlfjgobejaaGreat
open Go.RowKit Go.Sf Go.Shelf
attribute [local go_sem] Oper.semAt_some
attribute [local go_sem] Oper.semAt_some
def Sto.keys (S:Sto):List Int:=S.recs.map (·.1)
theorem zm1 (S:Sto) (k:Int):(S.rem k).1.d.late.length≤S.d.late.length+1:=by
 unfold Sto.rem
 split
 ·simp
 ·cases zw S.recs k with
  | none=>simp
  | some r=>
   simp only;have h4:=Xw S.d (r.2.headD 0:Nat) [];have h6:∀d:Dk,d.synced.late.length≤d.late.length:=fun d=>by
    unfold Dk.synced
    split
    ·exact Nat.le_refl _
    ·split
     ·exact Nat.zero_le _
     ·exact Nat.le_refl _
   split
   ·rw[(jd _ _ _).2.2.2.1];exact h4
   ·split
    ·rw[(jd _ _ _).2.2.2.1];exact Nat.le_trans (h6 _) h4
    ·exact Nat.le_trans (h6 _) h4
attribute [local go_sem] Oper.semAt_some
section
variable {P : Nat → Prop} {W : World}
theorem zdt {a:Addr} {n cap:Nat} {t:List Int} (hb:P a.block) (h1:n≤cap) (h2:cap≤9223372036854775807) (hn:t.length+1=n) (h5:∀j u,(zi t)[j]? = some u→W.cell? (a.add (j+1))=some u):ye P W (.slice (some ⟨a.block,a.off+1,none⟩) (n-1) (cap-1)) (zi t):=by
 refine⟨some ⟨a.block,a.off+1,none⟩,cap-1,by rw[zr,←hn];rfl,by rw[zr];omega,by omega,Or.inr ⟨_,rfl,hb,fun j u hj=>?_⟩⟩
 have:=h5 j u hj;have e:a.add (j+1)=(⟨a.block,a.off+1,none⟩:Addr).add j:=by
  unfold Addr.add;rw[if_neg (by omega)]
  split
  ·subst_vars;rfl
  ·simp only[Addr.mk.injEq,true_and,and_true];omega
 rw[←e]
 exact this
theorem zdu {a:Addr} {n:Nat} {t:List Int} (h1:n≤1) (hn:t.length+1=n):ye P W (.slice (some a) (n-1) 0) (zi t):=by
 have e:t = []:=List.length_eq_zero_iff.1 (by omega)
 subst e;subst hn
 exact⟨some a,0,rfl,Nat.le_refl _,by omega,Or.inl rfl⟩
end
attribute [local go_sem] Oper.semAt_some
def Jnl.put (J:Jnl) (k:Int) (b:List Int):Jnl × Int × Int:=
 if J.broken≠0 then (J,0,J.broken)
 else if 131071<b.length then (J,0,3)
 else (({ J with S:=(J.S.put (k :: b)).1 }:Jnl).met (J.S.put (k :: b)).2.2,(J.S.put (k :: b)).2.1,(J.S.put (k :: b)).2.2)
def byE (x:Int):List Value:=[.int .u8 x]
theorem byE_len (x:Int):(byE x).length=1:=rfl
theorem byE_one (x:Int):∀u∈byE x,u.oneCell'=true:=fun u hu=>by
 simp only[byE,List.mem_cons,List.not_mem_nil,or_false] at hu;subst hu;rfl
theorem ze9 (l:List Int):l.flatMap byE=zi l:=by
 induction l with
 | nil=>rfl
 | cons x r ih=>rw[List.flatMap_cons,ih];rfl
theorem infoBy:∃(i:TypeInfo) (z:Value) (by_:Nat),Tryz.prog.info? 5=some i∧i.zero=some z∧i.size=1∧i.bytes=by_∧z.cells.size=1∧by_≤1000:=by
 have h:((Tryz.prog.info? 5).bind fun i=>i.zero.map fun z=>(i.size,decide (i.bytes≤1000),z.cells.size))=some (1,true,1):=by kernel_rfl
 cases hi:Tryz.prog.info? 5 with
 | none=>rw[hi] at h;cases h
 | some i=>
  rw[hi] at h
  cases hz:i.zero with
  | none=>simp[hz] at h
  | some z=>
   simp only[Option.bind_some,hz,Option.map_some,Option.some.injEq,Prod.mk.injEq,decide_eq_true_eq] at h
   exact⟨i,z,i.bytes,rfl,hz,h.1,rfl,h.2.2,h.2.1⟩
theorem ye.y {P:Nat→Prop} {W:World} {v:Value} {b:List Int} (h:ye P W v (zi b)):ze6 W byE v b:=by
 obtain⟨p,cap,rfl,_,_,h3⟩:=h.ex;refine⟨p,cap,by rw[zr],?_⟩
 rcases h3 with h3|⟨a,rfl,_,h4⟩
 ·exact Or.inl (by simpa[zi] using h3)
 ·exact Or.inr ⟨a,rfl,fun j u hu=>h4 j u (by rw[ze9] at hu;exact hu)⟩
theorem uk.rowP {W w:World} {v:Value} {l:List Int} (h:uk w 5 1 byE v l) (hl:l.length≤9223372036854775807) (hb:∀g,v.ownBlock=some g→W.heap.size≤g):ye (fun k=>W.heap.size≤k∧k<w.heap.size) w v (zi l):=by
 have h':w.ownsRow W.heap.size 5 1 v l.length (zi l):=by
  have h0:w.ownsRow 0 5 1 v l.length (l.flatMap byE):=h;rw[ze9] at h0;refine⟨h0.1,?_⟩
  rcases h0.2 with e|⟨g,c,cur,e1,e2,e3⟩
  ·exact Or.inl e
  ·exact Or.inr ⟨g,c,cur,e1,hb g (by rw[e1];rfl),e3⟩
 exact uv.rowP h' hl
theorem one_row (X:World) (x:Int):uk (X.alloc (.cells #[.int .u8 x] 5)).drew 5 1 byE (.slice (some ⟨X.heap.size,0,none⟩) 1 1) [x]:=by
 refine⟨rfl,Or.inr ⟨X.heap.size,1,#[.int .u8 x],rfl,Nat.zero_le _,heap_alloc_new X _,Nat.le_refl _,by decide,rfl,rfl⟩⟩
attribute [local go_sem] Oper.semAt_some
def Vlt.put (V:Vlt) (k:Int) (b:List Int):Vlt:=({ V with S:=(V.S.put (k :: b)).1 }:Vlt).met (V.S.put (k :: b)).2.2
def PutV (own:Nat→Prop) (W:World) (vb st db mb:Nat) (km:List (VID × KpM)) (vk:Nat→Prop) (V:Vlt) (k:Int) (b:List Int) (e:Ending) (w':World):Prop:=
 e = .returned (.tuple #[.int .i64 (V.S.put (k :: b)).2.1,.int .i64 (V.S.put (k :: b)).2.2])∧VAt own w' vb st db mb km vk (V.put k b)∧zq (fun k=>¬own k) W w'
section
variable {own own' : Nat → Prop} {W : World} {vb st db mb : Nat} {km : List (VID × KpM)} {vk : Nat → Prop} {V : Vlt}
theorem VAt.less (h:VAt own W vb st db mb km vk V) (hs:∀k,own' k→own k):VAt own' W vb st db mb km vk V:=
 h.oth (zq.refl _ _) (fun k hk=>Or.inl (hs k hk)) (fun k hk=>h.olt (hs k hk))
set_option maxRecDepth 100000 in
theorem vput (h:VAt own W vb st db mb km vk V) {v:Value} {b:List Int} {k:Int} (hv:ye own W v (zi b)) (hk:0≤k∧k≤255) (hbb:BL b) (hl:b.length≤10000000) (hf:V.S.d.late.length+600<1000000):Calls Tryz.prog 133 #[.pointer (some ⟨vb,0,none⟩),.int .u8 k,v] W (PutV own W vb st db mb km vk V k b):=by
 have H:=zd h;have hvg:∀w',W.grownBy w' none→ye own w' v (zi b):=fun w' hg=>hv.turn fun k hk=>hg.block k (h.olt hk) (by simp)
 obtain⟨p,cap,rfl,q1,q2,-⟩:=hv.ex;rw[zr] at q1 hvg ⊢;have HV:=zd hvg;clear hvg;have c0:=h.cells.1;have HBB:Hid (BL b):=zd hbb;have HF:=zd hf;have HL:=zd hl;clear h hv q1 q2 hbb hf hl;obtain⟨n,hn⟩:∃n,n=b.length:=⟨_,rfl⟩;have HN:=zd hn;rw[←hn] at HV ⊢;clear hn
 go_enter Tryz.func133,Tryz.ntmps133
 go_upto_region 1 with fail
 refine wp_region_held_drew (S:=fun w'=>w'.cell? ⟨vb,0,none⟩=some (.pointer (some ⟨st,0,none⟩))) (by kernel_rfl) c0 (fun hHeld=>?_)
 refine tk (i:=0) (oi:=⟨some 11,Op.move (Operand.tmp 0),_,_,_,none⟩) (v:=?_) rfl hHeld ?_ ?_;rotate_left
 ·rintro w s1;go_simp;try with_reducible rfl
 (try simp only[Act.put,za,zb,zc])
 refine tk (i:=1) (oi:=⟨some 12,Op.nilCheck (Operand.tmp 11),_,_,_,none⟩) (v:=?_) rfl hHeld ?_ ?_;rotate_left
 ·rintro w s1;go_simp;try with_reducible rfl
 (try simp only[Act.put,za,zb,zc])
 refine tk (i:=2) (oi:=⟨some 13,Op.fieldAddr 224 (Operand.tmp 12) 0,_,_,_,none⟩) (v:=?_) rfl hHeld ?_ ?_;rotate_left
 ·rintro w s1;go_simp;try with_reducible rfl
 (try simp only[Act.put,za,zb,zc])
 refine tk (i:=3) (oi:=⟨some 14,Op.load 24 (Operand.tmp 13),_,_,_,none⟩) (v:=?_) rfl hHeld ?_ ?_;rotate_left
 ·rintro w s1;go_simp;try with_reducible rfl
 (try simp only[Act.put,za,zb,zc])
 refine tk (i:=4) (oi:=⟨some 15,Op.move (Operand.tmp 1),_,_,_,none⟩) (v:=?_) rfl hHeld ?_ ?_;rotate_left
 ·rintro w s1;go_simp;try with_reducible rfl
 (try simp only[Act.put,za,zb,zc])
 refine tk (i:=6) (oi:=⟨some 17,Op.move (Operand.tmp 2),_,_,_,none⟩) (v:=?_) rfl hHeld ?_ ?_;rotate_left
 ·rintro w s1;go_simp;try with_reducible rfl
 (try simp only[Act.put,za,zb,zc])
 refine wpAnyH_ready (rs:=[5]) (by kernel_rfl) (by simp) ?_
 refine AllReadyH.cons (o:=⟨some 16,Op.buildSlice 32 1 #[(0,Operand.tmp 15)],_,_,_,none⟩) rfl (fun K hK=>?_) AllReadyH.nil
 go_simp
 have hg1:W.grownBy (W.alloc (.cells #[.int .u8 k] 5)).drew none:=zl (zg _ _ none);have HR1:=zd (one_row W k);have HG1:=zd hg1;have c1:=hg1.cell c0 (by simp)
 clear hg1;refine hK.out _ _ c1 (fun hHeld=>?_)
 clear hK K
 (try simp only[Act.put,za,zb,zc])
 generalize (W.alloc (.cells #[.int .u8 k] 5)).drew=w1 at *;obtain⟨i0,z0,by0,hi,hz0,hz1,hz2,hz3,hz4⟩:=infoBy;refine wpAnyH_ready (rs:=[7]) (by kernel_rfl) (by simp) ?_
 refine AllReadyH.cons (o:=⟨some 18,Op.call { callee:=Callee.builtin Builtin.append,args:=#[Operand.tmp 16,Operand.tmp 17],argTypes:=#[32,32] },_,_,_,none⟩) rfl (fun K hK=>?_) AllReadyH.nil
 refine zad (E:=5) (sz:=1) (enc:=byE) (v:=.slice (some ⟨W.heap.size,0,none⟩) 1 1) (l:=[k]) (m:=b) rfl _ _ 32 rfl byE_len byE_one i0 z0 by0 Tryz.underlying32 hi hz0 hz1 hz2 hz3 (by decide) hz4 rfl HR1.out rfl (HV.out _ HG1.out).y (by have:=HL.out;simp only[List.length_cons,List.length_nil];omega) (n+1) (by rw[HN.out];simp only[List.length_cons,List.length_nil];omega) ?_
 intro p' cap' w3 hap;have hg3:W.grownBy w3 none:=xi HG1.out hap.2.1 (fun g hb=>by simp only[Value.ownBlock] at hb;injection hb with hb;omega)
 have hr3:=uk.rowP (W:=W) hap.1 (by have:=HL.out;simp only[List.length_append,List.length_cons,List.length_nil];omega) (fun g hg=>by
  have hz:=HG1.out.size
  rcases hap.2.2 with e|e
  ·have e2:some W.heap.size=some g:=e.symm.trans hg
   injection e2 with e2;omega
  ·have e2:=e.symm.trans hg
   injection e2 with e2;omega)
 have hj3:VAt (fun k=>own k∨(W.heap.size≤k∧k<w3.heap.size)) w3 vb st db mb km vk V:=H.out.oth ⟨hg3.os,hg3.tape,hg3.output,hg3.size,fun k hk _=>hg3.block k hk (by simp)⟩ (fun k hk=>hk.imp id And.left) (fun k hk=>hk.elim (fun e=>Nat.lt_of_lt_of_le (H.out.olt e) hg3.size) And.right)
 have HPT:Hid (Calls Tryz.prog 20 #[.pointer (some ⟨st,0,none⟩),.slice p' (n+1) cap'] w3 fun e w'=>e = .returned (.tuple #[.int .i64 (V.S.put (k :: b)).2.1,.int .i64 (V.S.put (k :: b)).2.2])∧VAt own w' vb st db mb km vk { V with S:=(V.S.put (k :: b)).1 }∧zq (fun k=>¬own k) W w'):=(by
  obtain⟨mb,tb,rv,rb,hS⟩:=hj3.sr;refine(sput hS (hr3.mono fun k hk=>Or.inl (Or.inr hk)) (fun x hx=>?_) (by have:=HL.out;simp only[List.length_append,List.length_cons,List.length_nil];omega) HF.out).mono ?_
  ·rcases List.mem_cons.1 hx with e|e
   ·rw[e];exact⟨hk.1,by omega⟩
   ·exact HBB.out x e
  ·rintro e w' ⟨rfl,h1,h2⟩
   have h3:=hj3.store h1 h2
   exact⟨rfl,h3.less fun k hk=>Or.inl hk,(zq.trans (bs:=fun k=>¬own k) (a:=W) (b:=w3) ⟨hg3.os,hg3.tape,hg3.output,hg3.size,fun k hk _=>hg3.block k hk (by simp)⟩ (h2.mono fun k hk e=>hk (Or.inl (Or.inl e))))⟩)
 have c3:=hg3.cell c0 (by simp)
 clear hap hg3 hr3 hj3;refine hK.out _ _ c3 (fun hHeld=>?_)
 clear hK K
 (try simp only[Act.put,za,zb,zc])
 refine wpAnyH_ready (rs:=[8]) (by kernel_rfl) (by simp) ?_
 refine AllReadyH.cons (o:=⟨some 19,Op.call { callee:=Callee.value (Operand.func 20),args:=#[Operand.tmp 14,Operand.tmp 18],argTypes:=#[24,32] },_,_,_,none⟩) rfl (fun K hK=>?_) AllReadyH.nil
 go_simp
 go_at_call 20
 refine HPT.out.mono ?_;rintro e w4 ⟨rfl,hj4,ht4⟩;have HJ4:=zd hj4;have HT4:=zd ht4;have c4:=hj4.cells.1;clear hj4 ht4;generalize hr0:(V.S.put (k :: b)).1=S2 at *;generalize hr1:(V.S.put (k :: b)).2.1=r1 at *;generalize hr2:(V.S.put (k :: b)).2.2=r2 at *;have HR12:=zd (And.intro hr1 (And.intro hr2 hr0));clear hr1 hr2 hr0;refine hK.out _ _ c4 (fun hHeld=>?_)
 clear hK K
 (try simp only[Act.put,za,zb,zc])
 refine tk (i:=9) (oi:=⟨some 10,Op.move (Operand.tmp 19),_,_,_,none⟩) (v:=?_) rfl hHeld ?_ ?_;rotate_left
 ·rintro w -;go_simp;try with_reducible rfl
 (try simp only[Act.put,za,zb,zc])
 refine tk (i:=10) (oi:=⟨some 20,Op.extract (Operand.tmp 10) 0,_,_,_,none⟩) (v:=?_) rfl hHeld ?_ ?_;rotate_left
 ·rintro w -;go_simp;try with_reducible rfl
 (try simp only[Act.put,za,zb,zc])
 refine tk (i:=11) (oi:=⟨some 21,Op.extract (Operand.tmp 10) 1,_,_,_,none⟩) (v:=?_) rfl hHeld ?_ ?_;rotate_left
 ·rintro w -;go_simp;try with_reducible rfl
 (try simp only[Act.put,za,zb,zc])
 refine tk (i:=12) (oi:=⟨some 8,Op.assign (Operand.tmp 20),_,_,_,none⟩) (v:=?_) rfl hHeld ?_ ?_;rotate_left
 ·rintro w -;go_simp;try with_reducible rfl
 (try simp only[Act.put,za,zb,zc])
 refine tk (i:=13) (oi:=⟨some 9,Op.assign (Operand.tmp 21),_,_,_,none⟩) (v:=?_) rfl hHeld ?_ ?_;rotate_left
 ·rintro w -;go_simp;try with_reducible rfl
 (try simp only[Act.put,za,zb,zc])
 refine wpAnyH_done (by kernel_rfl) ?_ _
 go_wp2_with (go_at_call 135;refine(vmet HJ4.out r2).mono ?_;rintro e w5 ⟨rfl,h6,h7⟩;have HJ5:=zd h6;have HT5:=zd h7;clear h6 h7)
 go_ret2
 exact⟨by rw[HR12.out.1,HR12.out.2.1];rfl,by unfold Vlt.put;rw[HR12.out.2.1,HR12.out.2.2];exact HJ5.out,HT4.out.trans HT5.out⟩
end
attribute [local go_sem] Oper.semAt_some
def Vlt.rem (V:Vlt) (k:Int):Vlt × Int:=(({ V with S:=(V.S.rem k).1 }:Vlt).met (V.S.rem k).2,(V.S.rem k).2)
def Vlt.znn (V:Vlt) (n k:Int):Vlt:={ V with life:=n,at_:=k }
def Vlt.born (V:Vlt) (n:Int):Vlt × Int:=
 if V.broken≠0 then (V,V.broken)
 else if n<1∨4611686018427387904<n then (V,2)
 else if n≤V.life then (V,4)
 else if (V.S.put (76 :: be 8 n.toNat)).2.2≠0 then (V.put 76 (be 8 n.toNat),(V.S.put (76 :: be 8 n.toNat)).2.2)
 else if 0<V.at_ then ((V.put 76 (be 8 n.toNat)).znn n (V.S.put (76 :: be 8 n.toNat)).2.1).rem V.at_
 else ((V.put 76 (be 8 n.toNat)).znn n (V.S.put (76 :: be 8 n.toNat)).2.1,0)
def VPost (own:Nat→Prop) (W:World) (vb st db mb:Nat) (P:Vlt × Int) (e:Ending) (w':World):Prop:=
 e = .returned (.int .i64 P.2)∧(∃km vk,VAt own w' vb st db mb km vk P.1)∧zq (fun k=>¬own k) W w'
section
variable {own own' : Nat → Prop} {W : World} {vb st db mb : Nat} {km : List (VID × KpM)} {vk : Nat → Prop} {V : Vlt}
theorem VAt.znn (h:VAt own W vb st db mb km vk V) (n k:Int):VAt own ((W.setCell ⟨vb,1,none⟩ (.int .i64 n)).setCell ⟨vb,2,none⟩ (.int .i64 k)) vb st db mb km vk (V.znn n k)∧zq (fun k=>¬own k) W ((W.setCell ⟨vb,1,none⟩ (.int .i64 n)).setCell ⟨vb,2,none⟩ (.int .i64 k)):=by
 obtain⟨h1,t1⟩:=h.set 1 (.int .i64 n) { V with life:=n } rfl rfl rfl
 obtain⟨h2,t2⟩:=h1.set 2 (.int .i64 k) (V.znn n k) rfl rfl rfl
 exact⟨h2,t1.trans t2⟩
theorem zbe (h:VAt own W vb st db mb km vk V) (k:Int) (hf:V.S.d.late.length<1000000):Calls Tryz.prog 30 #[.pointer (some ⟨st,0,none⟩),.int .i64 k] W fun e w'=>e = .returned (.int .i64 (V.S.rem k).2)∧VAt own w' vb st db mb km vk { V with S:=(V.S.rem k).1 }∧zq (fun k=>¬own k) W w':=by
 obtain⟨mb',tb,rv,rb,hS⟩:=h.sr;refine(sremove hS k hf).mono ?_;rintro e w' ⟨rfl,h1,h2⟩
 exact⟨rfl,h.store ⟨_,_,_,_,h1⟩ h2,h2.mono fun k hk e=>hk (Or.inl e)⟩
theorem born_a (h:V.broken≠0) (n:Int):V.born n=(V,V.broken):=by unfold Vlt.born;rw[if_pos h]
theorem zlk (h:V.broken=0) {n:Int} (hn:n<1∨4611686018427387904<n):V.born n=(V,2):=by unfold Vlt.born;rw[if_neg (by simp[h]),if_pos hn]
theorem zhe (h:V.broken=0) {n:Int} (hn:¬(n<1∨4611686018427387904<n)) (hl:n≤V.life):V.born n=(V,4):=by unfold Vlt.born;rw[if_neg (by simp[h]),if_neg hn,if_pos hl]
theorem zhf (h:V.broken=0) {n:Int} (hn:¬(n<1∨4611686018427387904<n)) (hl:¬n≤V.life) {r1 r2:Int} {S2:Sto} (hp:V.S.put (76 :: be 8 n.toNat)=(S2,r1,r2)) (hr:r2≠0):V.born n=(V.put 76 (be 8 n.toNat),r2):=by unfold Vlt.born;rw[if_neg (by simp[h]),if_neg hn,if_neg hl,hp,if_pos hr]
theorem zhg (h:V.broken=0) {n:Int} (hn:¬(n<1∨4611686018427387904<n)) (hl:¬n≤V.life) {r1:Int} {S2:Sto} (hp:V.S.put (76 :: be 8 n.toNat)=(S2,r1,0)) (ha:0<V.at_):V.born n=((V.put 76 (be 8 n.toNat)).znn n r1).rem V.at_:=by unfold Vlt.born;rw[if_neg (by simp[h]),if_neg hn,if_neg hl,hp,if_neg (by simp),if_pos ha]
theorem zhh (h:V.broken=0) {n:Int} (hn:¬(n<1∨4611686018427387904<n)) (hl:¬n≤V.life) {r1:Int} {S2:Sto} (hp:V.S.put (76 :: be 8 n.toNat)=(S2,r1,0)) (ha:¬0<V.at_):V.born n=((V.put 76 (be 8 n.toNat)).znn n r1,0):=by unfold Vlt.born;rw[if_neg (by simp[h]),if_neg hn,if_neg hl,hp,if_neg (by simp),if_neg ha]
theorem zjf (V:Vlt) (k:Int) (b:List Int):(V.put k b).life=V.life∧(V.put k b).at_=V.at_∧(V.put k b).sh=V.sh∧(V.put k b).S=(V.S.put (k :: b)).1:=by
 unfold Vlt.put Vlt.met
 split <;> exact⟨rfl,rfl,rfl,rfl⟩
set_option maxRecDepth 100000 in
theorem vborn (h:VAt own W vb st db mb km vk V) {n:Int} (hf:V.S.d.late.length+600<1000000) (hf2:∀b,(V.S.put b).1.d.late.length<1000000):Calls Tryz.prog 62 #[.pointer (some ⟨vb,0,none⟩),.int .i64 n] W (VPost own W vb st db mb (V.born n)):=by
 have HB:=zd (zew h);have H:=zd h
 by_cases hb0:V.broken=0
 ·rw[hb0] at HB
  by_cases h1:n<1∨4611686018427387904<n
  ·have HP:=zd (zlk hb0 h1)
   clear h hf hf2
   by_cases h2:n<1
   ·clear h1
    go_enter Tryz.func62,Tryz.ntmps62
    go_wp2_with (go_at_call 79;refine HB.out.mono ?_;rintro e w9 ⟨rfl,h5⟩;obtain rfl:W=w9:=h5.symm)
    go_ret
    exact⟨by rw[HP.out];rfl,⟨_,_,by rw[HP.out];exact H.out⟩,zq.refl _ _⟩
   ·have h3:4611686018427387904<n:=h1.resolve_left h2
    clear h1
    go_enter Tryz.func62,Tryz.ntmps62
    go_wp2_with (go_at_call 79;refine HB.out.mono ?_;rintro e w9 ⟨rfl,h5⟩;obtain rfl:W=w9:=h5.symm)
    go_ret
    exact⟨by rw[HP.out];rfl,⟨_,_,by rw[HP.out];exact H.out⟩,zq.refl _ _⟩
  ·by_cases hl:n≤V.life
   ·have HP:=zd (zhe hb0 h1 hl)
    obtain⟨c0,c1,c2,c3,c4,cf⟩:=h.cells;have h2:¬n<1:=fun e=>h1 (Or.inl e)
    have h3:¬4611686018427387904<n:=fun e=>h1 (Or.inr e)
    clear h hf hf2 h1;generalize V.life=lf at *
    go_enter Tryz.func62,Tryz.ntmps62
    go_wp2_with (go_at_call 79;refine HB.out.mono ?_;rintro e w9 ⟨rfl,h5⟩;obtain rfl:W=w9:=h5.symm)
    go_ret
    exact⟨by rw[HP.out];rfl,⟨_,_,by rw[HP.out];exact H.out⟩,zq.refl _ _⟩
   ·have h2:¬n<1:=fun e=>h1 (Or.inl e)
    have h3:¬4611686018427387904<n:=fun e=>h1 (Or.inr e)
    obtain⟨m,rfl⟩:=Int.eq_ofNat_of_zero_le (show 0≤n by omega)
    obtain⟨S2,r1,r2,hp⟩:∃S2 r1 r2,V.S.put (76 :: be 8 (m:Int).toNat)=(S2,r1,r2):=⟨_,_,_,rfl⟩;have hpv:=zjf V 76 (be 8 (m:Int).toNat);obtain⟨c0,c1,c2,c3,c4,cf⟩:=h.cells;have HOT:Hid (∀w',W.grownBy w' none→VAt (fun k=>own k∨(W.heap.size≤k∧k<w'.heap.size)) w' vb st db mb km vk V):=zd fun w' hg=>H.out.oth ⟨hg.os,hg.tape,hg.output,hg.size,fun k hk _=>hg.block k hk (by simp)⟩ (fun k hk=>hk.imp id And.left) (fun k hk=>hk.elim (fun e=>Nat.lt_of_lt_of_le (H.out.olt e) hg.size) And.right)
    have hbe:(be 8 (m:Int).toNat).length=8:=yo _ _;have HPU:Hid (∀w' p c,W.grownBy w' none→ye (fun k=>W.heap.size≤k∧k<w'.heap.size) w' (.slice p 8 c) (zi (be 8 m))→Calls Tryz.prog 133 #[.pointer (some ⟨vb,0,none⟩),.int .u8 76,.slice p 8 c] w' fun e w2=>e = .returned (.tuple #[.int .i64 r1,.int .i64 r2])∧VAt own w2 vb st db mb km vk (V.put 76 (be 8 (m:Int).toNat))∧zq (fun k=>¬own k) W w2):=zd fun w' p c hg hr=>by
     have h5:=vput (HOT.out w' hg) (k:=76) (b:=be 8 (m:Int).toNat) (hr.mono fun k hk=>Or.inr hk) ⟨by decide,by decide⟩ (Zm _ _) (by rw[hbe];decide) hf
     unfold PutV at h5;rw[hp] at h5;refine h5.mono ?_;rintro e w2 ⟨rfl,h6,h7⟩
     exact⟨rfl,h6.less fun k hk=>Or.inl hk,(yl hg).trans (h7.mono fun k hk e=>hk (Or.inl e))⟩
    have HF2:Hid ((V.put 76 (be 8 (m:Int).toNat)).S.d.late.length<1000000):=zd (by rw[hpv.2.2.2];exact hf2 _)
    have HAT:Hid ((V.put 76 (be 8 (m:Int).toNat)).at_=V.at_):=zd hpv.2.1;have HD:=zd fun h=>zhf hb0 h1 hl hp h
    have HE:=zd fun (h:r2=0)=>zhg hb0 h1 hl (h ▸ hp)
    have HFF:=zd fun (h:r2=0)=>zhh hb0 h1 hl (h ▸ hp)
    generalize V.put 76 (be 8 (m:Int).toNat)=V1 at *;clear h hf hf2 h1 hp hpv hbe;generalize V.life=lf at *;generalize V.born (m:Int)=VB at *;generalize V.at_=at0 at *
    go_enter Tryz.func62,Tryz.ntmps62
    go_upto_region 8 with (go_at_call 79;refine HB.out.mono ?_;rintro e w9 ⟨rfl,h5⟩;obtain rfl:W=w9:=h5.symm)
    go_upto_region 9 with fail
    have HS0:=zd (WS.start W W (zm _));have HT0:Hid (zq (fun k=>¬k<W.heap.size) W (W.alloc (.cells #[.slice none 0 0] 231))):=zd (yl (zg _ _ none))
    have HRR:Hid (∀w',zq (fun k=>¬k<W.heap.size) W w'→W.grownBy w' none):=zd fun w' ht=>xj (zm W) (own:=fun k=>k<W.heap.size) (fun k hk=>hk) ht
    clear c0 c1 c2 c3 c4 cf;generalize W.alloc (.cells #[.slice none 0 0] 231)=w3 at *;have hm2:m<18446744073709551616:=by omega
    go_upto_region 10 with (go_at_call 132;refine(HS0.out.longN (by simp) m hm2).mono ?_;rintro e w4 ⟨rfl,hs,ht⟩;rw[List.nil_append] at hs;have HS1:=zd hs;have HT1:=zd (HT0.out.trans ht);clear hs ht)
    have HOU:Hid (Calls Tryz.prog 134 #[.pointer (some ⟨W.heap.size,0,none⟩)] w4 fun e w'=>∃p c,e = .returned (.slice p 8 c)∧w4.grownBy w' none∧ye (fun k=>w4.heap.size≤k∧k<w'.heap.size) w' (.slice p 8 c) (zi (be 8 m))):=zd ((HS1.out.outN (by rw[yo];decide)).mono (by
     rintro e w' ⟨v,rfl,hr,hg⟩;have hrp:=uv.rowP (W:=w4) (w:=w') (v:=v) (l:=be 8 m) hr (by rw[yo];decide)
     obtain⟨p,c,rfl,-⟩:=hrp.ex;rw[zr,yo] at hrp ⊢
     exact⟨p,c,rfl,hg,hrp⟩))
    have HGZ:=zd (HRR.out w4 HT1.out);clear HS0 HS1 HT0 HT1 HRR
    go_upto_region 11 with (first
     | (go_at_call 133;refine(HPU.out w13 p c (HGZ.out.trans HG13.out) (HRX.out.mono fun k hk=>⟨Nat.le_trans HGZ.out.size hk.1,hk.2⟩)).mono ?_;rintro e w14 ⟨rfl,hs,ht⟩;have HV14:=zd hs;have HT14:=zd ht;clear hs ht)
     | (go_at_call 134;refine HOU.out.mono ?_;rintro e w13 ⟨p,c,rfl,hg,hr⟩;have HG13:=zd hg;have HRX:=zd hr;clear hg hr))
    clear HRX HOU HPU
    by_cases hr:r2=0
    ·subst hr
     obtain⟨c0,c1,c2,c3,c4,cf⟩:=HV14.out.cells;rw[HAT.out] at c2;have HLV:=zd (HV14.out.znn (m:Int) r1)
     go_upto_region 15 with fail
     clear c0 c1 c2 c3 c4 cf;obtain⟨c0,c1,c2,c3,c4,cf⟩:=HLV.out.1.cells;generalize (w14.setCell ⟨vb,1,none⟩ (.int .i64 (m:Int))).setCell ⟨vb,2,none⟩ (.int .i64 r1)=w15 at *
     by_cases ha:0<at0
     ·have HVB:=zd (HE.out rfl ha)
      have HRM:=zd (zbe HLV.out.1 at0 (by have:=HF2.out;exact this))
      clear HE HFF HD;have HRV:Hid ((V1.znn (m:Int) r1).rem at0=(({ V1.znn (m:Int) r1 with S:=((V1.znn (m:Int) r1).S.rem at0).1 }:Vlt).met ((V1.znn (m:Int) r1).S.rem at0).2,((V1.znn (m:Int) r1).S.rem at0).2)):=zd rfl
      generalize (V1.znn (m:Int) r1).rem at0=VR at *;generalize ({ V1.znn (m:Int) r1 with S:=((V1.znn (m:Int) r1).S.rem at0).1 }:Vlt)=V3 at *
      generalize ((V1.znn (m:Int) r1).S.rem at0).2=r3 at *
      go_wp2_with (first
       | (go_at_call 135;refine(vmet HV16.out r3).mono ?_;rintro e w17 ⟨rfl,hs,ht⟩;have HV17:=zd hs;have HT17:=zd ht;clear hs ht)
       | (go_at_call 30;refine HRM.out.mono ?_;rintro e w16 ⟨rfl,hs,ht⟩;have HV16:=zd hs;have HT16:=zd ht;clear hs ht))
      go_ret
      exact⟨by rw[HVB.out,HRV.out];rfl,⟨_,_,by rw[HVB.out,HRV.out];exact HV17.out⟩,HT14.out.trans (HLV.out.2.trans (HT16.out.trans HT17.out))⟩
     ·have HVB:=zd (HFF.out rfl (by omega))
      clear HE HFF HD
      go_wp2_with fail
      go_ret
      exact⟨by rw[HVB.out];rfl,⟨_,_,by rw[HVB.out];exact HLV.out.1⟩,HT14.out.trans HLV.out.2⟩
    ·have HVB:=zd (HD.out hr)
     have hb:(r2 != 0)=true:=by simp[hr]
     clear HE HFF HD
     go_wp2_with fail
     go_ret
     exact⟨by rw[HVB.out];rfl,⟨_,_,by rw[HVB.out];exact HV14.out⟩,HT14.out⟩
 ·have HP:=zd (born_a hb0 n)
  have hb1:(V.broken != 0)=true:=by simp[hb0]
  clear h hf hf2;generalize V.broken=br at *
  go_enter Tryz.func62,Tryz.ntmps62
  go_wp2_with (go_at_call 79;refine HB.out.mono ?_;rintro e w9 ⟨rfl,h5⟩;obtain rfl:W=w9:=h5.symm)
  go_ret
  exact⟨by rw[HP.out];rfl,⟨_,_,by rw[HP.out];exact H.out⟩,zq.refl _ _⟩
end
end Go.Proofs.YtbcbhlfjgobejaaGreat
