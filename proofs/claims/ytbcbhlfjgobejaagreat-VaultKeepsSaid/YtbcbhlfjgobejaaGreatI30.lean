/- share.Get: the walk. Conditions: none, or as the theorems say. -/
import Derived.Test.YtbcbhlfjgobejaaGreatI1
import Derived.Test.YtbcbhlfjgobejaaGreatI29
import Derived.Test.YtbcbhlfjgobejaaGreatI14
set_option linter.unusedSimpArgs false
set_option linter.unusedVariables false
namespace Go.Proofs.YtbcbhlfjgobejaaGreat
set_option maxHeartbeats 200000000
open Go.RowKit Go.Sf Go.Shelf
attribute [local go_sem] Oper.semAt_some
structure GtS where
 n:Nat
 s1:Nat × Bool
 key:List Int
 s2:Nat × Bool
 vn:Nat
 s3:Nat × Bool
 nd:Nat
 s4:Nat × Bool
 m:Nat
 s5:Nat × Bool
 row:List Int
 s6:Nat × Bool
structure GtOk (e:List Int) (g:GtS):Prop where
 n:g.n=Zz e (0,false) 1
 s1:g.s1=ux e (0,false) 1
 key:g.key=Vc e g.s1 g.n
 s2:g.s2=ux e g.s1 g.n
 vn:g.vn=Zz e g.s2 8
 s3:g.s3=ux e g.s2 8
 nd:g.nd=Zz e g.s3 1
 s4:g.s4=ux e g.s3 1
 m:g.m=Zz e g.s4 4
 s5:g.s5=ux e g.s4 4
 row:g.row=Vc e g.s5 g.m
 s6:g.s6=ux e g.s5 g.m
theorem gt_ex (e:List Int):∃g,GtOk e g:=by
 obtain⟨n,h1⟩:∃x,x=Zz e (0,false) 1:=⟨_,rfl⟩;obtain⟨s1,h2⟩:∃x,x=ux e (0,false) 1:=⟨_,rfl⟩;obtain⟨key,h3⟩:∃x,x=Vc e s1 n:=⟨_,rfl⟩;obtain⟨s2,h4⟩:∃x,x=ux e s1 n:=⟨_,rfl⟩;obtain⟨vn,h5⟩:∃x,x=Zz e s2 8:=⟨_,rfl⟩;obtain⟨s3,h6⟩:∃x,x=ux e s2 8:=⟨_,rfl⟩;obtain⟨nd,h7⟩:∃x,x=Zz e s3 1:=⟨_,rfl⟩;obtain⟨s4,h8⟩:∃x,x=ux e s3 1:=⟨_,rfl⟩;obtain⟨m,h9⟩:∃x,x=Zz e s4 4:=⟨_,rfl⟩;obtain⟨s5,h10⟩:∃x,x=ux e s4 4:=⟨_,rfl⟩;obtain⟨row,h11⟩:∃x,x=Vc e s5 m:=⟨_,rfl⟩;obtain⟨s6,h12⟩:∃x,x=ux e s5 m:=⟨_,rfl⟩
 exact⟨⟨n,s1,key,s2,vn,s3,nd,s4,m,s5,row,s6⟩,⟨h1,h2,h3,h4,h5,h6,h7,h8,h9,h10,h11,h12⟩⟩
theorem zgc {W:World} {p:Option Addr} {c n:Nat} {l:List Int} (h:yc W (.slice p n c) l) {k c':Nat} {q:Option Addr} (hk:k≤l.length) (hq:k≠0→q=p):yc W (.slice q k c') (l.take k):=by
 obtain⟨p',cap',e,hc⟩:=h.ex
 injection e with e1 e2 e3
 subst e1;refine⟨q,c',by rw[List.length_take,Nat.min_eq_left hk],?_⟩
 rcases Nat.eq_zero_or_pos k with h0|h0
 ·left;subst h0;rfl
 ·rw[hq (by omega)]
  rcases hc with h1|⟨a,rfl,h1⟩
  ·left;rw[h1];simp
  ·refine Or.inr ⟨a,rfl,fun j u hu=>h1 j u ?_⟩
   have hj:j<(zi (l.take k)).length:=(List.getElem?_eq_some_iff.1 hu).1;rw[zr,List.length_take] at hj;unfold zi at hu ⊢;rw[List.map_take,List.getElem?_take_of_lt (by omega)] at hu
   exact hu
structure GI (W:World) (e:List Int) (rb tb rs:Nat) (s:Nat × Bool) (p0:Option Addr) (n0 c0:Nat) (x1 x2:Int) (p3:Option Addr) (n3 c3:Nat) (w:World):Prop where
 rd:RdG rb w rb e s
 tbx:w.heap[tb]? = some (.cells #[.slice p0 n0 c0,.int .i64 x1,.int .i64 x2,.slice p3 n3 c3] 97 (0,0))
 rsx:w.heap[rs]? = some (.cells #[.slice none 0 0,.int .i64 0,.int .i64 0,.slice none 0 0] 97 (0,0))
 gr:W.grownBy w none
 ne:tb≠rb∧rs≠rb∧tb≠rs
 lo:W.heap.size≤rb∧W.heap.size≤tb∧W.heap.size≤rs∧rb<w.heap.size
def jz (W:World) (rb tb rs:Nat) (w:World) (v:Value) (l:List Int):Prop:=ye (fun k=>W.heap.size≤k∧k<w.heap.size∧k≠rb∧k≠tb∧k≠rs) w v (zi l)
section
variable {W w w' : World} {e : List Int} {rb tb rs : Nat} {s s' : Nat × Bool} {p0 p3 : Option Addr} {n0 c0 n3 c3 : Nat} {x1 x2 : Int}
theorem zid (p0 p3:Option Addr) (n0 c0 n3 c3:Nat) (x1 x2:Int):∀(j:Nat) (x:Int),(#[Value.slice p0 n0 c0,Value.int .i64 x1,Value.int .i64 x2,Value.slice p3 n3 c3])[j]?≠some (Value.int .u8 x):=fun j x h=>by
 rcases j with _|_|_|_|j <;> simp at h
theorem GI.turn (h:GI W e rb tb rs s p0 n0 c0 x1 x2 p3 n3 c3 w) (hr:RdG rb w' rb e s') (ht:zq (fun k=>k=rb) w w'):GI W e rb tb rs s' p0 n0 c0 x1 x2 p3 n3 c3 w':=
 ⟨hr,(ht.block tb (Array.getElem?_eq_some_iff.1 h.tbx).1 h.ne.1).trans h.tbx,(ht.block rs (Array.getElem?_eq_some_iff.1 h.rsx).1 h.ne.2.1).trans h.rsx,
 ⟨ht.os.trans h.gr.os,ht.tape.trans h.gr.tape,ht.output.trans h.gr.output,Nat.le_trans h.gr.size ht.size,fun k hk _=>(ht.block k (Nat.lt_of_lt_of_le hk h.gr.size) (fun e=>by have:=h.lo.1;omega)).trans (h.gr.block k hk (by simp))⟩,
 h.ne,h.lo.1,h.lo.2.1,h.lo.2.2.1,Nat.lt_of_lt_of_le h.lo.2.2.2 ht.size⟩
theorem GI.grown (h:GI W e rb tb rs s p0 n0 c0 x1 x2 p3 n3 c3 w) (hg:w.grownBy w' none):GI W e rb tb rs s p0 n0 c0 x1 x2 p3 n3 c3 w':=h.turn (Rdr.kept h.rd hg) (yl hg)
theorem jz.turn {v:Value} {l:List Int} (h:jz W rb tb rs w v l) (ht:zq (fun k=>k=rb∨k=tb∨k=rs) w w'):jz W rb tb rs w' v l:=
 (ye.turn h fun k hk=>ht.block k hk.2.1 (fun e=>e.elim hk.2.2.1 (fun e=>e.elim hk.2.2.2.1 hk.2.2.2.2))).mono fun k hk=>⟨hk.1,Nat.lt_of_lt_of_le hk.2.1 ht.size,hk.2.2⟩
theorem jz.made {v:Value} {l:List Int} (h:GI W e rb tb rs s p0 n0 c0 x1 x2 p3 n3 c3 w) (hn:uv w w' v l) (hl:l.length≤9223372036854775807):jz W rb tb rs w' v l:=
 (uv.rowP hn hl).mono fun k hk=>⟨Nat.le_trans h.gr.size hk.1,hk.2,by have:=h.lo.2.2.2;omega,by have:=(Array.getElem?_eq_some_iff.1 h.tbx).1;omega,by have:=(Array.getElem?_eq_some_iff.1 h.rsx).1;omega⟩
theorem zjj {w w':World} {k0:Nat} (ht:zq (fun k=>k=rb) w w'):zq (fun k=>k=rb∨k=tb∨k=rs) w w':=ht.mono fun k hk=>Or.inl hk
theorem GI.set (h:GI W e rb tb rs s p0 n0 c0 x1 x2 p3 n3 c3 w) (i:Nat) (u:Value) {p0' p3':Option Addr} {n0' c0' n3' c3':Nat} {x1' x2':Int} (hu:(#[.slice p0 n0 c0,.int .i64 x1,.int .i64 x2,.slice p3 n3 c3]:Array Value).setIfInBounds i u = #[.slice p0' n0' c0',.int .i64 x1',.int .i64 x2',.slice p3' n3' c3']) :
  GI W e rb tb rs s p0' n0' c0' x1' x2' p3' n3' c3' (w.setCell ⟨tb,i,none⟩ u)∧zq (fun k=>k=rb∨k=tb∨k=rs) w (w.setCell ⟨tb,i,none⟩ u):=by
 have hs:=yb w tb i u;have ht:zq (fun k=>k=tb) w (w.setCell ⟨tb,i,none⟩ u):=yt w tb i u
 have hz:(w.setCell ⟨tb,i,none⟩ u).heap.size=w.heap.size:=by simp[World.setCell]
 refine⟨⟨?_,?_,?_,?_,h.ne,h.lo.1,h.lo.2.1,h.lo.2.2.1,by rw[hz];exact h.lo.2.2.2⟩,ht.mono fun k hk=>Or.inr (Or.inl hk)⟩
 ·exact Rdr.other h.rd h.tbx (zid _ _ _ _ _ _ _ _) h.ne.1 fun k hk=>by
   by_cases hl:k<w.heap.size
   ·exact ht.block k hl hk
   ·rw[Array.getElem?_eq_none (by rw[hz];omega),Array.getElem?_eq_none (by omega)]
 ·simp only[World.setCell,Array.getElem?_modify,h.tbx,if_true,Option.map_some]
  rw[hu]
  rfl
 ·exact(ht.block rs (Array.getElem?_eq_some_iff.1 h.rsx).1 (fun e=>h.ne.2.2 e.symm)).trans h.rsx
 ·exact⟨ht.os.trans h.gr.os,ht.tape.trans h.gr.tape,ht.output.trans h.gr.output,by rw[hz];exact h.gr.size,fun k hk _=>(ht.block k (Nat.lt_of_lt_of_le hk h.gr.size) (fun e=>by have:=h.lo.2.1;omega)).trans (h.gr.block k hk (by simp))⟩
theorem GI.cells (h:GI W e rb tb rs s p0 n0 c0 x1 x2 p3 n3 c3 w):w.cell? ⟨tb,0,none⟩=some (.slice p0 n0 c0)∧w.cell? ⟨tb,1,none⟩=some (.int .i64 x1)∧w.cell? ⟨tb,2,none⟩=some (.int .i64 x2)∧w.cell? ⟨tb,3,none⟩=some (.slice p3 n3 c3)∧∀i,w.frozen? ⟨tb,i,none⟩=false:=
 ⟨(zh h.tbx 0).trans rfl,(zh h.tbx 1).trans rfl,(zh h.tbx 2).trans rfl,(zh h.tbx 3).trans rfl,fun i=>by simp[World.frozen?,h.tbx]⟩
end
theorem zh7 {W:World} {a:Addr} {n c c' k m:Nat} {l:List Int} (h:yc W (.slice (some a) n c) l) (hk:k≤l.length) (hm:m=l.length-k):yc W (.slice (some (a.add k)) m c') (l.drop k):=by
 obtain⟨p',cap',e,hc⟩:=h.ex
 injection e with e1 e2 e3
 refine⟨_,c',by rw[List.length_drop,hm],?_⟩
 rcases hc with h1|⟨a',rfl,h1⟩
 ·left;rw[h1];simp
 ·injection e1 with e1
  subst e1;refine Or.inr ⟨_,rfl,fun j u hu=>?_⟩
  rw[Addr.add_add];refine h1 _ _ ?_;unfold zi at hu ⊢;rw[List.map_drop,List.getElem?_drop] at hu
  exact hu
theorem zan {w w1 w2:World} {k0:Nat} (hg:w.grownBy w1 none) (ht:zq (fun k=>k=k0) w1 w2) (hle:w.heap.size≤k0):w.grownBy w2 none:=
 ⟨ht.os.trans hg.os,ht.tape.trans hg.tape,ht.output.trans hg.output,Nat.le_trans hg.size ht.size,fun k hk _=>(ht.block k (Nat.lt_of_lt_of_le hk hg.size) (fun e=>by omega)).trans (hg.block k hk (by simp))⟩
def Zv (w:World) (b:Nat) (u0 u1 u2 u3:Value):World:=(((w.setCell ⟨b,0,none⟩ u0).setCell ⟨b,1,none⟩ u1).setCell ⟨b,2,none⟩ u2).setCell ⟨b,3,none⟩ u3
theorem set4 {w:World} {b:Nat} {v0 v1 v2 v3:Value} {T:TypeId} (h:w.heap[b]? = some (.cells #[v0,v1,v2,v3] T (0,0))) (u0 u1 u2 u3:Value):(Zv w b u0 u1 u2 u3).heap[b]? = some (.cells #[u0,u1,u2,u3] T (0,0)):=by
 simp only[Zv,World.setCell,Array.getElem?_modify,h,if_true,Option.map_some]
 rfl
theorem Yw (w:World) (b:Nat) (u0 u1 u2 u3:Value):w.grownBy (Zv w b u0 u1 u2 u3) (some b):=(((yb w b 0 u0).trans (yb _ b 1 u1)).trans (yb _ b 2 u2)).trans (yb _ b 3 u3)
theorem Jb (w:World) (b:Nat) (u0 u1 u2 u3:Value):(Zv w b u0 u1 u2 u3).heap.size=w.heap.size:=by simp[Zv,World.setCell]
theorem Ze {W w:World} {b:Nat} {u0 u1 u2 u3:Value} (h:W.grownBy w none) (hb:W.heap.size≤b):W.grownBy (Zv w b u0 u1 u2 u3) none:=xi h (Yw w b u0 u1 u2 u3) fun q hq=>by injection hq with hq;omega
theorem zgh {W w:World} {rb tb rs:Nat} {u0 u1 u2 u3 v:Value} {l:List Int} (h:jz W rb tb rs w v l):ye (fun k=>W.heap.size≤k∧k<(Zv w rs u0 u1 u2 u3).heap.size) (Zv w rs u0 u1 u2 u3) v (zi l):=
 (ye.turn h fun k hk=>(Yw w rs u0 u1 u2 u3).block k hk.2.1 (fun e=>hk.2.2.2.2 (Option.some.inj e))).mono fun k hk=>⟨hk.1,by rw[Jb];exact hk.2.1⟩
theorem yx {w:World} {b:Nat} {v0 v1 v2 v3:Value} {T:TypeId} (h:w.heap[b]? = some (.cells #[v0,v1,v2,v3] T (0,0))):w.cell? ⟨b,0,none⟩=some v0∧w.cell? ⟨b,1,none⟩=some v1∧w.cell? ⟨b,2,none⟩=some v2∧w.cell? ⟨b,3,none⟩=some v3∧∀i,w.frozen? ⟨b,i,none⟩=false:=
 ⟨(zh h 0).trans rfl,(zh h 1).trans rfl,(zh h 2).trans rfl,(zh h 3).trans rfl,fun i=>by simp[World.frozen?,h]⟩
section
variable {W : World} {p : Option Addr} {c : Nat} {b : List Int}
def jo:Value:=.agg #[.slice none 0 0,.int .i64 0,.int .i64 0,.slice none 0 0]
set_option maxRecDepth 100000 in
theorem zgp (h:b.length<4):Calls Tryz.prog 189 #[.slice p b.length c] W fun e w'=>e = .returned (.tuple #[jo,.int .i64 160])∧W.grownBy w' none:=by
 have h1:(b.length:Int)<4:=by omega
 go_enter Tryz.func189,Tryz.ntmps189
 go_wp2_with fail
 refine bodyPost_ret (vm rfl _ _ W.heap.size 97 #[.slice none 0 0,.int .i64 0,.int .i64 0,.slice none 0 0] (0,0) _ rfl (heap_alloc_new W _) rfl Tryz.underlying97 (by kernel_rfl)) rfl ?_
 exact⟨rfl,zg _ _ none⟩
def okG (b E:List Int) (g:GtS):Bool:=!g.s6.2 && (decide (E.length-g.s6.1=0) && (decide (num (b.drop (b.length-4))=ya E) && Xf g.key.length (wrap64 (g.vn:Int)) (g.nd:Int) g.row.length))
def GetP (W:World) (ok:Bool) (key:List Int) (znm node:Int) (row:List Int) (e:Ending) (w':World):Prop:=
 W.grownBy w' none∧((ok=false∧e = .returned (.tuple #[jo,.int .i64 160]))∨(ok=true∧∃pk ck pr cr,e = .returned (.tuple #[.agg #[.slice pk key.length ck,.int .i64 znm,.int .i64 node,.slice pr row.length cr],.int .i64 0])∧ye (fun k=>W.heap.size≤k∧k<w'.heap.size) w' (.slice pk key.length ck) (zi key)∧ye (fun k=>W.heap.size≤k∧k<w'.heap.size) w' (.slice pr row.length cr) (zi row)))
set_option maxRecDepth 100000 in
theorem zie (h:yc W (.slice p b.length c) b) (hcap:b.length≤c) (hc9:c≤9223372036854775807) (hb:BL b) (hl:b.length≤200000) (h4:4≤b.length) {g:GtS} (hg:GtOk (b.take (b.length-4)) g):Calls Tryz.prog 189 #[.slice p b.length c] W (GetP W (okG b (b.take (b.length-4)) g) g.key (wrap64 (g.vn:Int)) (g.nd:Int) g.row):=by
 have HR:=zd h;have HB:=zd hb;have HG:=zd hg;obtain⟨n4,hn4⟩:∃n,b.length=n+4:=⟨b.length-4,by omega⟩
 obtain⟨a,rfl⟩:∃a,p=some a:=by
  obtain⟨p',cap',e,hc⟩:=h.ex
  rcases hc with h0|⟨a,rfl,_⟩
  ·rw[h0] at h4;simp at h4
  ·injection e with e1;exact⟨a,e1⟩
 have HOK:Hid (okG b (b.take (b.length-4)) g=okG b (b.take (b.length-4)) g):=zd rfl;generalize hok:okG b (b.take (b.length-4)) g=OK at *;have HOKE:=zd hok;clear hok HOK;obtain⟨nb,hnb⟩:∃n,n=b.length:=⟨_,rfl⟩;have HNB:=zd hnb;rw[←hnb] at hl h4 hcap ⊢;obtain⟨E,hE⟩:∃E,E=b.take (b.length-4):=⟨_,rfl⟩;have HE:=zd hE;rw[←hE] at HG HOKE;clear h hb hg hE;obtain rfl:nb=n4+4:=hnb.trans hn4;clear hnb hn4;have h41:¬((n4:Int)+4<4):=by omega
 have h42:(n4:Int)≤(c:Int):=by omega
 have h43:(n4:Int)+4≤(c:Int):=by omega
 have h44:¬c-n4=0:=by omega
 have h45:¬c=n4:=by omega
 have h46:(n4:Int)≤(n4:Int)+4:=by omega
 go_enter Tryz.func189,Tryz.ntmps189
 go_upto_region 4 with fail
 have hg1:=zg W (.cells #[.slice none 0 0,.int .i64 0,.int .i64 0,.slice none 0 0] 97) none;have hb1:=heap_alloc_new W (.cells #[.slice none 0 0,.int .i64 0,.int .i64 0,.slice none 0 0] 97);have HG1:=zd hg1;have HB1:=zd hb1;clear hg1 hb1;generalize W.alloc (.cells #[.slice none 0 0,.int .i64 0,.int .i64 0,.slice none 0 0] 97)=W1 at *;have HRE:Hid (yc W1 (.slice (some a) n4 c) E):=zd (by
  have h1:=zgc (HR.out.grown HG1.out (by simp)) (k:=n4) (c':=c) (q:=some a) (by rw[←HNB.out];omega) (fun _=>rfl)
  have h2:=HE.out;rw[←HNB.out,Nat.add_sub_cancel] at h2;rw[h2]
  exact h1)
 have HEL:Hid (E.length=n4):=zd (by rw[HE.out,List.length_take,←HNB.out];omega)
 have HNIL:Hid (Value.slice (some a) n4 c = .slice none 0 0→E = []):=zd fun e=>by
  injection e with _ e
  have h1:=HEL.out;rw[e] at h1
  exact List.eq_nil_of_length_eq_zero h1
 have HBE:Hid (BL E):=zd (by rw[HE.out];exact HB.out.take _)
 go_upto_region 5 with (go_at_call 163;refine(Xi HRE.out (by have:=HEL.out;omega) HNIL.out).mono ?_;rintro e w2 ⟨rb,rfl,hr,hg,hle⟩;have HR2:=zd hr;have HG2:=zd hg;have HLE:=zd hle;clear hr hg hle)
 go_upto_region 6 with fail
 have HI0:Hid (GI W E rb w2.heap.size W.heap.size (0,false) none 0 0 0 0 none 0 0 (w2.alloc (.cells #[.slice none 0 0,.int .i64 0,.int .i64 0,.slice none 0 0] 97))):=zd (by
  have hg3:=zg w2 (.cells #[.slice none 0 0,.int .i64 0,.int .i64 0,.slice none 0 0] 97) none;have hz1:W.heap.size<W1.heap.size:=(Array.getElem?_eq_some_iff.1 HB1.out).1;have hz2:=HG2.out.size;have hlt:=HR2.out.lt;have hle:=HLE.out;refine⟨Rdr.kept HR2.out hg3,heap_alloc_new _ _,(hg3.block W.heap.size (by omega) (by simp)).trans ((HG2.out.block W.heap.size hz1 (by simp)).trans HB1.out),HG1.out.trans (HG2.out.trans hg3),⟨by omega,by omega,by omega⟩,by omega,by omega,Nat.le_refl _,by simp;omega⟩)
 have HRW:Hid (∀w',W.grownBy w' none→yc w' (.slice (some a) n4 c) E∧yc w' (.slice (some (a.add n4)) 4 (c-n4)) (b.drop n4)):=zd fun w' hg=>by
  have h0:=HR.out.grown hg (by simp)
  refine⟨?_,zh7 h0 (by rw[←HNB.out];omega) (by rw[←HNB.out];omega)⟩
  have h1:=zgc h0 (k:=n4) (c':=c) (q:=some a) (by rw[←HNB.out];omega) (fun _=>rfl)
  have h2:=HE.out;rw[←HNB.out,Nat.add_sub_cancel] at h2;rw[h2]
  exact h1
 have HTL:Hid ((b.drop n4).length=4∧BL (b.drop n4)∧Zz (b.drop n4) (0,false) 4=num (b.drop n4)):=zd (by
  have hl4:(b.drop n4).length=4:=by rw[List.length_drop,←HNB.out];omega
  refine⟨hl4,HB.out.drop _,?_⟩;unfold Zz;rw[if_pos ((jl _ _ _).2 ⟨rfl,by rw[hl4];decide⟩)]
  show num (((b.drop n4).drop 0).take 4)=_
  rw[List.drop_zero,List.take_of_length_le (by rw[hl4];exact Nat.le_refl _)])
 have HOK2:Hid (∀(a6:Nat) (b6:Bool),g.s6=(a6,b6)→OK=(!b6 && (decide (E.length-a6=0) && (decide (num (b.drop n4)=ya E) && Xf g.key.length (wrap64 (g.vn:Int)) (g.nd:Int) g.row.length)))):=zd fun a6 b6 h6=>by
  have h2:=HOKE.out;unfold okG at h2;rw[h6,←HNB.out,Nat.add_sub_cancel] at h2
  exact h2.symm
 clear HR2 HG2 HLE HG1 HB1 HRE HOKE;generalize w2.alloc (.cells #[.slice none 0 0,.int .i64 0,.int .i64 0,.slice none 0 0] 97)=w3 at *;generalize w2.heap.size=tb at *;generalize hrs:W.heap.size=rs at *;have HX:=HG.out;obtain⟨n,s1,key,s2,vn,s3,nd,s4,m,s5,row,s6⟩:=g;have Gn:Hid (n=Zz E (0,false) 1):=zd HX.n;have Gs1:Hid (s1=ux E (0,false) 1):=zd HX.s1;have Gkey:Hid (key=Vc E s1 n):=zd HX.key;have Gs2:Hid (s2=ux E s1 n):=zd HX.s2;have Gvn:Hid (vn=Zz E s2 8):=zd HX.vn;have Gs3:Hid (s3=ux E s2 8):=zd HX.s3;have Gnd:Hid (nd=Zz E s3 1):=zd HX.nd;have Gs4:Hid (s4=ux E s3 1):=zd HX.s4;have Gm:Hid (m=Zz E s4 4):=zd HX.m;have Gs5:Hid (s5=ux E s4 4):=zd HX.s5;have Grow:Hid (row=Vc E s5 m):=zd HX.row;have Gs6:Hid (s6=ux E s5 m):=zd HX.s6;clear HX HG;have HKL:Hid (key.length≤1000000):=zd (by
  rw[Gkey.out];unfold Vc
  split
  ·rw[List.length_take,List.length_drop];have:=HEL.out;omega
  ·simp)
 have HRL:Hid (row.length≤1000000):=zd (by
  rw[Grow.out];unfold Vc
  split
  ·rw[List.length_take,List.length_drop];have:=HEL.out;omega
  ·simp)
 have hnl:n<256:=by rw[Gn.out];exact za7 HBE.out 1
 obtain⟨c0,c1,c2,c3,cf⟩:=HI0.out.cells
 go_upto_region 7 with (first
  | (go_at_call 164;refine(byteG HI0.out.rd HBE.out).mono ?_;rintro e w4 ⟨rfl,hr,ht⟩;rw[←Gn.out];rw[←Gs1.out] at hr;have HI1:=zd (HI0.out.turn hr ht);clear hr ht)
  | (go_at_call 167;refine(rawG HI1.out.rd (by have:=HI1.out.lo.2.2.2;omega) n (by omega)).mono ?_;rintro e w5 ⟨⟨pk,ck,rfl,hn⟩,hr,ht⟩;rw[←Gkey.out] at hn ⊢;rw[←Gs2.out] at hr;have HI2:=zd (HI1.out.turn hr ht);have HK0:=zd hn;clear hr ht hn)
  | (go_at_call 221;refine(zbg (qg HK0.out) (zao HK0.out) HKL.out).mono ?_;rintro e w6 ⟨pk2,ck2,rfl,hn,hg⟩;have HI3:=zd (HI2.out.grown hg);have HK:=zd (jz.made HI2.out hn (by have:=HKL.out;omega));obtain⟨c0,c1,c2,c3,cf⟩:=HI3.out.cells;clear hn hg))
 have HI4:=zd (HI3.out.set 0 (.slice pk2 key.length ck2) (p0':=pk2) (n0':=key.length) (c0':=ck2) (p3':=none) (n3':=0) (c3':=0) (x1':=0) (x2':=0) rfl);have HK4:=zd (jz.turn HK.out HI4.out.2);clear HI0 HI1 HI2 HI3 HK0 HK c0 c1 c2 c3 cf;generalize w6.setCell ⟨tb,0,none⟩ (.slice pk2 key.length ck2)=w7 at *;have hvn:vn<256 ^ 8:=by rw[Gvn.out];exact za7 HBE.out 8
 obtain⟨c0,c1,c2,c3,cf⟩:=HI4.out.1.cells
 go_upto_region 8 with (go_at_call 165;refine(zft HI4.out.1.rd HBE.out).mono ?_;rintro e w8 ⟨rfl,hr,ht⟩;rw[←Gvn.out];rw[←Gs3.out] at hr;have HI5:=zd (HI4.out.1.turn hr ht);have HK5:=zd (jz.turn HK4.out (zjj (k0:=0) ht));obtain⟨c0,c1,c2,c3,cf⟩:=HI5.out.cells;clear hr ht)
 have HI6:=zd (HI5.out.set 1 (.int .i64 (wrap64 (vn:Int))) (p0':=pk2) (n0':=key.length) (c0':=ck2) (p3':=none) (n3':=0) (c3':=0) (x1':=wrap64 (vn:Int)) (x2':=0) rfl);have HK6:=zd (jz.turn HK5.out HI6.out.2);clear HI4 HI5 HK4 HK5 c0 c1 c2 c3 cf;generalize w8.setCell ⟨tb,1,none⟩ (.int .i64 (wrap64 (vn:Int)))=w9 at *;have hnd:nd<256:=by rw[Gnd.out];exact za7 HBE.out 1
 obtain⟨c0,c1,c2,c3,cf⟩:=HI6.out.1.cells
 go_upto_region 9 with (go_at_call 164;refine(byteG HI6.out.1.rd HBE.out).mono ?_;rintro e w10 ⟨rfl,hr,ht⟩;rw[←Gnd.out];rw[←Gs4.out] at hr;have HI7:=zd (HI6.out.1.turn hr ht);have HK7:=zd (jz.turn HK6.out (zjj (k0:=0) ht));obtain⟨c0,c1,c2,c3,cf⟩:=HI7.out.cells;clear hr ht)
 have HI8:=zd (HI7.out.set 2 (.int .i64 (nd:Int)) (p0':=pk2) (n0':=key.length) (c0':=ck2) (p3':=none) (n3':=0) (c3':=0) (x1':=wrap64 (vn:Int)) (x2':=(nd:Int)) rfl);have HK8:=zd (jz.turn HK7.out HI8.out.2);clear HI6 HI7 HK6 HK7 c0 c1 c2 c3 cf;generalize w10.setCell ⟨tb,2,none⟩ (.int .i64 (nd:Int))=w11 at *;have hm:m<4294967296:=by rw[Gm.out];exact za7 HBE.out 4
 obtain⟨c0,c1,c2,c3,cf⟩:=HI8.out.1.cells
 go_upto_region 10 with (first
  | (go_at_call 222;refine(wordG HI8.out.1.rd HBE.out).mono ?_;rintro e w12 ⟨rfl,hr,ht⟩;rw[←Gm.out];rw[←Gs5.out] at hr;have HI9:=zd (HI8.out.1.turn hr ht);have HK9:=zd (jz.turn HK8.out (zjj (k0:=0) ht));clear hr ht)
  | (go_at_call 167;refine(rawG HI9.out.rd (by have:=HI9.out.lo.2.2.2;omega) m (by omega)).mono ?_;rintro e w13 ⟨⟨pr,cr,rfl,hn⟩,hr,ht⟩;rw[←Grow.out] at hn ⊢;rw[←Gs6.out] at hr;have HIA:=zd (HI9.out.turn hr ht);have HKA:=zd (jz.turn HK9.out (zjj (k0:=0) ht));have HR0:=zd hn;clear hr ht hn)
  | (go_at_call 221;refine(zbg (qg HR0.out) (zao HR0.out) HRL.out).mono ?_;rintro e w14 ⟨pr2,cr2,rfl,hn,hg⟩;have HIB:=zd (HIA.out.grown hg);have HKB:=zd (jz.turn HKA.out (yl hg));have HRB:=zd (jz.made HIA.out hn (by have:=HRL.out;omega));obtain⟨c0,c1,c2,c3,cf⟩:=HIB.out.cells;clear hn hg))
 have HIC:=zd (HIB.out.set 3 (.slice pr2 row.length cr2) (p0':=pk2) (n0':=key.length) (c0':=ck2) (p3':=pr2) (n3':=row.length) (c3':=cr2) (x1':=wrap64 (vn:Int)) (x2':=(nd:Int)) rfl);have HKC:=zd (jz.turn HKB.out HIC.out.2);have HRC:=zd (jz.turn HRB.out HIC.out.2);clear HI8 HI9 HIA HIB HK8 HK9 HKA HKB HRB HR0 c0 c1 c2 c3 cf;generalize w14.setCell ⟨tb,3,none⟩ (.slice pr2 row.length cr2)=w15 at *;have HX0:=zd (HIC.out.1.grown (zl (zm w15)));have HRX:=zd (show _∧_ from ⟨jz.turn HKC.out (yl (zl (zm w15))),jz.turn HRC.out (yl (zl (zm w15)))⟩)
 obtain⟨at6,bad6⟩:=s6;have hok:=HOK2.out at6 bad6 rfl;clear HIC HKC HRC
 go_cut [63] from 40 to 63 (fun c wx=>c = .bool (!OK)∧GI W E rb tb rs (at6,bad6) pk2 key.length ck2 (wrap64 (vn:Int)) (nd:Int) pr2 row.length cr2 wx∧jz W rb tb rs wx (.slice pk2 key.length ck2) key∧jz W rb tb rs wx (.slice pr2 row.length cr2) row)
 case first=>
  have HOK3:=zd hok;clear hok
  cases bad6 with
  | true=>
   have hokf:OK=false:=by rw[HOK3.out];rfl
   subst hokf;refine wp_region_held_drew (S:=fun w':World=>w'.heap[tb]? = some (.cells #[.slice pk2 key.length ck2,.int .i64 (wrap64 (vn:Int)),.int .i64 (nd:Int),.slice pr2 row.length cr2] 97 (0,0))) (by kernel_rfl) HX0.out.tbx (fun hHeld=>?_)
   generalize w15.drew=X0 at *;refine tk (i:=0) (oi:=⟨some 40,Op.move (Operand.tmp 5),_,_,_,none⟩) (v:=?_) rfl hHeld ?_ ?_;rotate_left
   ·rintro w -;go_simp;try with_reducible rfl
   (try simp only[Act.put,za,zb,zc])
   refine wpAnyH_ready (rs:=[1]) (by kernel_rfl) (by simp) ?_
   refine AllReadyH.cons (o:=⟨some 41,Op.call { callee:=Callee.value (Operand.func 223),args:=#[Operand.tmp 40],argTypes:=#[262] },_,_,_,none⟩) rfl (fun K hK=>?_) AllReadyH.nil
   go_simp
   go_at_call 223
   refine(Vy HX0.out.rd).mono ?_;rintro e wa ⟨rfl,h5⟩;obtain rfl:X0=wa:=h5.symm;refine hK.out _ _ hHeld (fun hHeld=>?_)
   clear hK K
   (try simp only[Act.put,za,zb,zc])
   refine tk (i:=2) (oi:=⟨some 42,Op.move (Operand.tmp 41),_,_,_,none⟩) (v:=?_) rfl hHeld ?_ ?_;rotate_left
   ·rintro w -;go_simp;try with_reducible rfl
   (try simp only[Act.put,za,zb,zc])
   refine wpAnyH_take (i:=3) (oi:=⟨some 43,Op.move (Operand.tmp 5),_,_,_,some (2,false)⟩) (v:=undef) rfl (by kernel_rfl) (by kernel_rfl) (by kernel_rfl) (fun _ _ _ h=>h) (Or.inr ⟨by rfl,rfl⟩) hHeld ?_
   (try simp only[Act.put,za,zb,zc])
   refine wpAnyH_take (i:=4) (oi:=⟨some 44,Op.call { callee:=Callee.value (Operand.func 224),args:=#[Operand.tmp 43],argTypes:=#[262] },_,_,_,some (2,false)⟩) (v:=undef) rfl (by kernel_rfl) (by kernel_rfl) (by kernel_rfl) (fun _ _ _ h=>h) (Or.inr ⟨by rfl,rfl⟩) hHeld ?_
   (try simp only[Act.put,za,zb,zc])
   refine wpAnyH_take (i:=5) (oi:=⟨some 45,Op.binOp BinOp.gtr 3 (Operand.tmp 44) (Operand.const (Value.int IntKind.i64 0)) 3,_,_,_,some (2,false)⟩) (v:=undef) rfl (by kernel_rfl) (by kernel_rfl) (by kernel_rfl) (fun _ _ _ h=>h) (Or.inr ⟨by rfl,rfl⟩) hHeld ?_
   (try simp only[Act.put,za,zb,zc])
   refine tk (i:=6) (oi:=⟨some 46,Op.pick (Operand.tmp 42) (Operand.const (Value.bool true)) (Operand.tmp 45),_,_,_,none⟩) (v:=?_) rfl hHeld ?_ ?_;rotate_left
   ·rintro w -;go_simp;try with_reducible rfl
   (try simp only[Act.put,za,zb,zc])
   refine tk (i:=7) (oi:=⟨some 47,Op.move (Operand.tmp 46),_,_,_,none⟩) (v:=?_) rfl hHeld ?_ ?_;rotate_left
   ·rintro w -;go_simp;try with_reducible rfl
   (try simp only[Act.put,za,zb,zc])
   refine wpAnyH_take (i:=8) (oi:=⟨some 48,Op.move (Operand.tmp 0),_,_,_,some (7,false)⟩) (v:=undef) rfl (by kernel_rfl) (by kernel_rfl) (by kernel_rfl) (fun _ _ _ h=>h) (Or.inr ⟨by rfl,rfl⟩) hHeld ?_
   (try simp only[Act.put,za,zb,zc])
   refine wpAnyH_take (i:=9) (oi:=⟨some 49,Op.move (Operand.tmp 4),_,_,_,some (7,false)⟩) (v:=undef) rfl (by kernel_rfl) (by kernel_rfl) (by kernel_rfl) (fun _ _ _ h=>h) (Or.inr ⟨by rfl,rfl⟩) hHeld ?_
   (try simp only[Act.put,za,zb,zc])
   refine wpAnyH_take (i:=10) (oi:=⟨some 50,Op.slice 32 (Operand.tmp 48) (some (Operand.tmp 49)) none none,_,_,_,some (7,false)⟩) (v:=undef) rfl (by kernel_rfl) (by kernel_rfl) (by kernel_rfl) (fun _ _ _ h=>h) (Or.inr ⟨by rfl,rfl⟩) hHeld ?_
   (try simp only[Act.put,za,zb,zc])
   refine wpAnyH_take (i:=11) (oi:=⟨some 51,Op.call { callee:=Callee.value (Operand.func 163),args:=#[Operand.tmp 50],argTypes:=#[32] },_,_,_,some (7,false)⟩) (v:=undef) rfl (by kernel_rfl) (by kernel_rfl) (by kernel_rfl) (fun _ _ _ h=>h) (Or.inr ⟨by rfl,rfl⟩) hHeld ?_
   (try simp only[Act.put,za,zb,zc])
   refine wpAnyH_take (i:=12) (oi:=⟨some 52,Op.call { callee:=Callee.value (Operand.func 222),args:=#[Operand.tmp 51],argTypes:=#[262] },_,_,_,some (7,false)⟩) (v:=undef) rfl (by kernel_rfl) (by kernel_rfl) (by kernel_rfl) (fun _ _ _ h=>h) (Or.inr ⟨by rfl,rfl⟩) hHeld ?_
   (try simp only[Act.put,za,zb,zc])
   refine wpAnyH_take (i:=13) (oi:=⟨some 53,Op.move (Operand.tmp 0),_,_,_,some (7,false)⟩) (v:=undef) rfl (by kernel_rfl) (by kernel_rfl) (by kernel_rfl) (fun _ _ _ h=>h) (Or.inr ⟨by rfl,rfl⟩) hHeld ?_
   (try simp only[Act.put,za,zb,zc])
   refine wpAnyH_take (i:=14) (oi:=⟨some 54,Op.move (Operand.tmp 4),_,_,_,some (7,false)⟩) (v:=undef) rfl (by kernel_rfl) (by kernel_rfl) (by kernel_rfl) (fun _ _ _ h=>h) (Or.inr ⟨by rfl,rfl⟩) hHeld ?_
   (try simp only[Act.put,za,zb,zc])
   refine wpAnyH_take (i:=15) (oi:=⟨some 55,Op.slice 32 (Operand.tmp 53) none (some (Operand.tmp 54)) none,_,_,_,some (7,false)⟩) (v:=undef) rfl (by kernel_rfl) (by kernel_rfl) (by kernel_rfl) (fun _ _ _ h=>h) (Or.inr ⟨by rfl,rfl⟩) hHeld ?_
   (try simp only[Act.put,za,zb,zc])
   refine wpAnyH_take (i:=16) (oi:=⟨some 56,Op.call { callee:=Callee.value (Operand.func 161),args:=#[Operand.tmp 55],argTypes:=#[32] },_,_,_,some (7,false)⟩) (v:=undef) rfl (by kernel_rfl) (by kernel_rfl) (by kernel_rfl) (fun _ _ _ h=>h) (Or.inr ⟨by rfl,rfl⟩) hHeld ?_
   (try simp only[Act.put,za,zb,zc])
   refine wpAnyH_take (i:=17) (oi:=⟨some 57,Op.binOp BinOp.neq 172 (Operand.tmp 52) (Operand.tmp 56) 172,_,_,_,some (7,false)⟩) (v:=undef) rfl (by kernel_rfl) (by kernel_rfl) (by kernel_rfl) (fun _ _ _ h=>h) (Or.inr ⟨by rfl,rfl⟩) hHeld ?_
   (try simp only[Act.put,za,zb,zc])
   refine tk (i:=18) (oi:=⟨some 58,Op.pick (Operand.tmp 47) (Operand.const (Value.bool true)) (Operand.tmp 57),_,_,_,none⟩) (v:=?_) rfl hHeld ?_ ?_;rotate_left
   ·rintro w -;go_simp;try with_reducible rfl
   (try simp only[Act.put,za,zb,zc])
   refine tk (i:=19) (oi:=⟨some 59,Op.move (Operand.tmp 58),_,_,_,none⟩) (v:=?_) rfl hHeld ?_ ?_;rotate_left
   ·rintro w -;go_simp;try with_reducible rfl
   (try simp only[Act.put,za,zb,zc])
   refine wpAnyH_take (i:=20) (oi:=⟨some 60,Op.load 97 (Operand.tmp 6),_,_,_,some (19,false)⟩) (v:=undef) rfl (by kernel_rfl) (by kernel_rfl) (by kernel_rfl) (fun _ _ _ h=>h) (Or.inr ⟨by rfl,rfl⟩) hHeld ?_
   (try simp only[Act.put,za,zb,zc])
   refine wpAnyH_take (i:=21) (oi:=⟨some 61,Op.call { callee:=Callee.value (Operand.func 65),args:=#[Operand.tmp 60],argTypes:=#[97] },_,_,_,some (19,false)⟩) (v:=undef) rfl (by kernel_rfl) (by kernel_rfl) (by kernel_rfl) (fun _ _ _ h=>h) (Or.inr ⟨by rfl,rfl⟩) hHeld ?_
   (try simp only[Act.put,za,zb,zc])
   refine wpAnyH_take (i:=22) (oi:=⟨some 62,Op.unOp UnOp.not 4 (Operand.tmp 61),_,_,_,some (19,false)⟩) (v:=undef) rfl (by kernel_rfl) (by kernel_rfl) (by kernel_rfl) (fun _ _ _ h=>h) (Or.inr ⟨by rfl,rfl⟩) hHeld ?_
   (try simp only[Act.put,za,zb,zc])
   refine tk (i:=23) (oi:=⟨some 63,Op.pick (Operand.tmp 59) (Operand.const (Value.bool true)) (Operand.tmp 62),_,_,_,none⟩) (v:=?_) rfl hHeld ?_ ?_;rotate_left
   ·rintro w -;go_simp;try with_reducible rfl
   (try simp only[Act.put,za,zb,zc])
   refine wpAnyH_done (by kernel_rfl) ?_ _
   go_wp2_with fail
   go_meet
   case rel=>exact⟨rfl,HX0.out,HRX.out⟩
  | false=>
   obtain⟨L,hL⟩:∃L,L=E.length-at6:=⟨_,rfl⟩;have HL:=zd hL;clear hL
   by_cases hl0:0<L
   ·have hokf:OK=false:=by rw[HOK3.out,←HL.out];simp;omega
    subst hokf;have hl1:(0:Int)<(L:Int):=by omega
    refine wp_region_held_drew (S:=fun w':World=>w'.heap[tb]? = some (.cells #[.slice pk2 key.length ck2,.int .i64 (wrap64 (vn:Int)),.int .i64 (nd:Int),.slice pr2 row.length cr2] 97 (0,0))) (by kernel_rfl) HX0.out.tbx (fun hHeld=>?_)
    generalize w15.drew=X0 at *;refine tk (i:=0) (oi:=⟨some 40,Op.move (Operand.tmp 5),_,_,_,none⟩) (v:=?_) rfl hHeld ?_ ?_;rotate_left
    ·rintro w -;go_simp;try with_reducible rfl
    (try simp only[Act.put,za,zb,zc])
    refine wpAnyH_ready (rs:=[1]) (by kernel_rfl) (by simp) ?_
    refine AllReadyH.cons (o:=⟨some 41,Op.call { callee:=Callee.value (Operand.func 223),args:=#[Operand.tmp 40],argTypes:=#[262] },_,_,_,none⟩) rfl (fun K hK=>?_) AllReadyH.nil
    go_simp
    go_at_call 223
    refine(Vy HX0.out.rd).mono ?_;rintro e wa ⟨rfl,h5⟩;obtain rfl:X0=wa:=h5.symm;refine hK.out _ _ hHeld (fun hHeld=>?_)
    clear hK K
    (try simp only[Act.put,za,zb,zc])
    refine tk (i:=2) (oi:=⟨some 42,Op.move (Operand.tmp 41),_,_,_,none⟩) (v:=?_) rfl hHeld ?_ ?_;rotate_left
    ·rintro w -;go_simp;try with_reducible rfl
    (try simp only[Act.put,za,zb,zc])
    refine tk (i:=3) (oi:=⟨some 43,Op.move (Operand.tmp 5),_,_,_,some (2,false)⟩) (v:=?_) rfl hHeld ?_ ?_;rotate_left
    ·rintro w -;go_simp;try with_reducible rfl
    (try simp only[Act.put,za,zb,zc])
    refine wpAnyH_ready (rs:=[4]) (by kernel_rfl) (by simp) ?_
    refine AllReadyH.cons (o:=⟨some 44,Op.call { callee:=Callee.value (Operand.func 224),args:=#[Operand.tmp 43],argTypes:=#[262] },_,_,_,some (2,false)⟩) rfl (fun K hK=>?_) AllReadyH.nil
    go_simp
    go_at_call 224
    refine(Qo HX0.out.rd).mono ?_;rintro e wb ⟨rfl,hg⟩;have HX1:=zd (HX0.out.grown hg);have HT1:=zd (yl (A:=fun k=>k=rb∨k=tb∨k=rs) hg)
    have HG1:=zd hg;clear hg;simp only[←HL.out,Bool.false_eq_true,if_false];refine hK.out _ _ HX1.out.tbx (fun hHeld=>?_)
    clear hK K
    (try simp only[Act.put,za,zb,zc])
    refine tk (i:=5) (oi:=⟨some 45,Op.binOp BinOp.gtr 3 (Operand.tmp 44) (Operand.const (Value.int IntKind.i64 0)) 3,_,_,_,some (2,false)⟩) (v:=?_) rfl hHeld ?_ ?_;rotate_left
    ·rintro w -;go_simp;try with_reducible rfl
    (try simp only[Act.put,za,zb,zc])
    refine tk (i:=6) (oi:=⟨some 46,Op.pick (Operand.tmp 42) (Operand.const (Value.bool true)) (Operand.tmp 45),_,_,_,none⟩) (v:=?_) rfl hHeld ?_ ?_;rotate_left
    ·rintro w -;go_simp;try with_reducible rfl
    (try simp only[Act.put,za,zb,zc])
    refine tk (i:=7) (oi:=⟨some 47,Op.move (Operand.tmp 46),_,_,_,none⟩) (v:=?_) rfl hHeld ?_ ?_;rotate_left
    ·rintro w -;go_simp;try with_reducible rfl
    (try simp only[Act.put,za,zb,zc])
    refine wpAnyH_take (i:=8) (oi:=⟨some 48,Op.move (Operand.tmp 0),_,_,_,some (7,false)⟩) (v:=undef) rfl (by kernel_rfl) (by kernel_rfl) (by kernel_rfl) (fun _ _ _ h=>h) (Or.inr ⟨by rfl,rfl⟩) hHeld ?_
    (try simp only[Act.put,za,zb,zc])
    refine wpAnyH_take (i:=9) (oi:=⟨some 49,Op.move (Operand.tmp 4),_,_,_,some (7,false)⟩) (v:=undef) rfl (by kernel_rfl) (by kernel_rfl) (by kernel_rfl) (fun _ _ _ h=>h) (Or.inr ⟨by rfl,rfl⟩) hHeld ?_
    (try simp only[Act.put,za,zb,zc])
    refine wpAnyH_take (i:=10) (oi:=⟨some 50,Op.slice 32 (Operand.tmp 48) (some (Operand.tmp 49)) none none,_,_,_,some (7,false)⟩) (v:=undef) rfl (by kernel_rfl) (by kernel_rfl) (by kernel_rfl) (fun _ _ _ h=>h) (Or.inr ⟨by rfl,rfl⟩) hHeld ?_
    (try simp only[Act.put,za,zb,zc])
    refine wpAnyH_take (i:=11) (oi:=⟨some 51,Op.call { callee:=Callee.value (Operand.func 163),args:=#[Operand.tmp 50],argTypes:=#[32] },_,_,_,some (7,false)⟩) (v:=undef) rfl (by kernel_rfl) (by kernel_rfl) (by kernel_rfl) (fun _ _ _ h=>h) (Or.inr ⟨by rfl,rfl⟩) hHeld ?_
    (try simp only[Act.put,za,zb,zc])
    refine wpAnyH_take (i:=12) (oi:=⟨some 52,Op.call { callee:=Callee.value (Operand.func 222),args:=#[Operand.tmp 51],argTypes:=#[262] },_,_,_,some (7,false)⟩) (v:=undef) rfl (by kernel_rfl) (by kernel_rfl) (by kernel_rfl) (fun _ _ _ h=>h) (Or.inr ⟨by rfl,rfl⟩) hHeld ?_
    (try simp only[Act.put,za,zb,zc])
    refine wpAnyH_take (i:=13) (oi:=⟨some 53,Op.move (Operand.tmp 0),_,_,_,some (7,false)⟩) (v:=undef) rfl (by kernel_rfl) (by kernel_rfl) (by kernel_rfl) (fun _ _ _ h=>h) (Or.inr ⟨by rfl,rfl⟩) hHeld ?_
    (try simp only[Act.put,za,zb,zc])
    refine wpAnyH_take (i:=14) (oi:=⟨some 54,Op.move (Operand.tmp 4),_,_,_,some (7,false)⟩) (v:=undef) rfl (by kernel_rfl) (by kernel_rfl) (by kernel_rfl) (fun _ _ _ h=>h) (Or.inr ⟨by rfl,rfl⟩) hHeld ?_
    (try simp only[Act.put,za,zb,zc])
    refine wpAnyH_take (i:=15) (oi:=⟨some 55,Op.slice 32 (Operand.tmp 53) none (some (Operand.tmp 54)) none,_,_,_,some (7,false)⟩) (v:=undef) rfl (by kernel_rfl) (by kernel_rfl) (by kernel_rfl) (fun _ _ _ h=>h) (Or.inr ⟨by rfl,rfl⟩) hHeld ?_
    (try simp only[Act.put,za,zb,zc])
    refine wpAnyH_take (i:=16) (oi:=⟨some 56,Op.call { callee:=Callee.value (Operand.func 161),args:=#[Operand.tmp 55],argTypes:=#[32] },_,_,_,some (7,false)⟩) (v:=undef) rfl (by kernel_rfl) (by kernel_rfl) (by kernel_rfl) (fun _ _ _ h=>h) (Or.inr ⟨by rfl,rfl⟩) hHeld ?_
    (try simp only[Act.put,za,zb,zc])
    refine wpAnyH_take (i:=17) (oi:=⟨some 57,Op.binOp BinOp.neq 172 (Operand.tmp 52) (Operand.tmp 56) 172,_,_,_,some (7,false)⟩) (v:=undef) rfl (by kernel_rfl) (by kernel_rfl) (by kernel_rfl) (fun _ _ _ h=>h) (Or.inr ⟨by rfl,rfl⟩) hHeld ?_
    (try simp only[Act.put,za,zb,zc])
    refine tk (i:=18) (oi:=⟨some 58,Op.pick (Operand.tmp 47) (Operand.const (Value.bool true)) (Operand.tmp 57),_,_,_,none⟩) (v:=?_) rfl hHeld ?_ ?_;rotate_left
    ·rintro w -;go_simp;try with_reducible rfl
    (try simp only[Act.put,za,zb,zc])
    refine tk (i:=19) (oi:=⟨some 59,Op.move (Operand.tmp 58),_,_,_,none⟩) (v:=?_) rfl hHeld ?_ ?_;rotate_left
    ·rintro w -;go_simp;try with_reducible rfl
    (try simp only[Act.put,za,zb,zc])
    refine wpAnyH_take (i:=20) (oi:=⟨some 60,Op.load 97 (Operand.tmp 6),_,_,_,some (19,false)⟩) (v:=undef) rfl (by kernel_rfl) (by kernel_rfl) (by kernel_rfl) (fun _ _ _ h=>h) (Or.inr ⟨by rfl,rfl⟩) hHeld ?_
    (try simp only[Act.put,za,zb,zc])
    refine wpAnyH_take (i:=21) (oi:=⟨some 61,Op.call { callee:=Callee.value (Operand.func 65),args:=#[Operand.tmp 60],argTypes:=#[97] },_,_,_,some (19,false)⟩) (v:=undef) rfl (by kernel_rfl) (by kernel_rfl) (by kernel_rfl) (fun _ _ _ h=>h) (Or.inr ⟨by rfl,rfl⟩) hHeld ?_
    (try simp only[Act.put,za,zb,zc])
    refine wpAnyH_take (i:=22) (oi:=⟨some 62,Op.unOp UnOp.not 4 (Operand.tmp 61),_,_,_,some (19,false)⟩) (v:=undef) rfl (by kernel_rfl) (by kernel_rfl) (by kernel_rfl) (fun _ _ _ h=>h) (Or.inr ⟨by rfl,rfl⟩) hHeld ?_
    (try simp only[Act.put,za,zb,zc])
    refine tk (i:=23) (oi:=⟨some 63,Op.pick (Operand.tmp 59) (Operand.const (Value.bool true)) (Operand.tmp 62),_,_,_,none⟩) (v:=?_) rfl hHeld ?_ ?_;rotate_left
    ·rintro w -;go_simp;try with_reducible rfl
    (try simp only[Act.put,za,zb,zc])
    refine wpAnyH_done (by kernel_rfl) ?_ _
    go_wp2_with fail
    go_meet
    case rel=>exact⟨rfl,HX1.out,jz.turn HRX.out.1 (yl HG1.out),jz.turn HRX.out.2 (yl HG1.out)⟩
   ·have hl1:¬(0:Int)<(L:Int):=by omega
    have hL0:L=0:=by omega
    by_cases hq:num (b.drop n4)=ya E
    ·have hokf:OK=Xf key.length (wrap64 (vn:Int)) (nd:Int) row.length:=by rw[HOK3.out,←HL.out,hL0,hq];simp
     have HOKF:=zd hokf;clear hokf;refine wp_region_held_drew (S:=fun w':World=>w'.heap[tb]? = some (.cells #[.slice pk2 key.length ck2,.int .i64 (wrap64 (vn:Int)),.int .i64 (nd:Int),.slice pr2 row.length cr2] 97 (0,0))) (by kernel_rfl) HX0.out.tbx (fun hHeld=>?_)
     generalize w15.drew=X0 at *;refine tk (i:=0) (oi:=⟨some 40,Op.move (Operand.tmp 5),_,_,_,none⟩) (v:=?_) rfl hHeld ?_ ?_;rotate_left
     ·rintro w -;go_simp;try with_reducible rfl
     (try simp only[Act.put,za,zb,zc])
     refine wpAnyH_ready (rs:=[1]) (by kernel_rfl) (by simp) ?_
     refine AllReadyH.cons (o:=⟨some 41,Op.call { callee:=Callee.value (Operand.func 223),args:=#[Operand.tmp 40],argTypes:=#[262] },_,_,_,none⟩) rfl (fun K hK=>?_) AllReadyH.nil
     go_simp
     go_at_call 223
     refine(Vy HX0.out.rd).mono ?_;rintro e wa ⟨rfl,h5⟩;obtain rfl:X0=wa:=h5.symm;refine hK.out _ _ hHeld (fun hHeld=>?_)
     clear hK K
     (try simp only[Act.put,za,zb,zc])
     refine tk (i:=2) (oi:=⟨some 42,Op.move (Operand.tmp 41),_,_,_,none⟩) (v:=?_) rfl hHeld ?_ ?_;rotate_left
     ·rintro w -;go_simp;try with_reducible rfl
     (try simp only[Act.put,za,zb,zc])
     refine tk (i:=3) (oi:=⟨some 43,Op.move (Operand.tmp 5),_,_,_,some (2,false)⟩) (v:=?_) rfl hHeld ?_ ?_;rotate_left
     ·rintro w -;go_simp;try with_reducible rfl
     (try simp only[Act.put,za,zb,zc])
     refine wpAnyH_ready (rs:=[4]) (by kernel_rfl) (by simp) ?_
     refine AllReadyH.cons (o:=⟨some 44,Op.call { callee:=Callee.value (Operand.func 224),args:=#[Operand.tmp 43],argTypes:=#[262] },_,_,_,some (2,false)⟩) rfl (fun K hK=>?_) AllReadyH.nil
     go_simp
     go_at_call 224
     refine(Qo HX0.out.rd).mono ?_;rintro e wb ⟨rfl,hg⟩;have HX1:=zd (HX0.out.grown hg);have HT1:=zd (yl (A:=fun k=>k=rb∨k=tb∨k=rs) hg)
     have HG1:=zd hg;clear hg;simp only[←HL.out,Bool.false_eq_true,if_false];refine hK.out _ _ HX1.out.tbx (fun hHeld=>?_)
     clear hK K
     (try simp only[Act.put,za,zb,zc])
     refine tk (i:=5) (oi:=⟨some 45,Op.binOp BinOp.gtr 3 (Operand.tmp 44) (Operand.const (Value.int IntKind.i64 0)) 3,_,_,_,some (2,false)⟩) (v:=?_) rfl hHeld ?_ ?_;rotate_left
     ·rintro w -;go_simp;try with_reducible rfl
     (try simp only[Act.put,za,zb,zc])
     refine tk (i:=6) (oi:=⟨some 46,Op.pick (Operand.tmp 42) (Operand.const (Value.bool true)) (Operand.tmp 45),_,_,_,none⟩) (v:=?_) rfl hHeld ?_ ?_;rotate_left
     ·rintro w -;go_simp;try with_reducible rfl
     (try simp only[Act.put,za,zb,zc])
     refine tk (i:=7) (oi:=⟨some 47,Op.move (Operand.tmp 46),_,_,_,none⟩) (v:=?_) rfl hHeld ?_ ?_;rotate_left
     ·rintro w -;go_simp;try with_reducible rfl
     (try simp only[Act.put,za,zb,zc])
     refine tk (i:=8) (oi:=⟨some 48,Op.move (Operand.tmp 0),_,_,_,some (7,false)⟩) (v:=?_) rfl hHeld ?_ ?_;rotate_left
     ·rintro w -;go_simp;try with_reducible rfl
     (try simp only[Act.put,za,zb,zc])
     refine tk (i:=9) (oi:=⟨some 49,Op.move (Operand.tmp 4),_,_,_,some (7,false)⟩) (v:=?_) rfl hHeld ?_ ?_;rotate_left
     ·rintro w -;go_simp;try with_reducible rfl
     (try simp only[Act.put,za,zb,zc])
     refine tk (i:=10) (oi:=⟨some 50,Op.slice 32 (Operand.tmp 48) (some (Operand.tmp 49)) none none,_,_,_,some (7,false)⟩) (v:=.slice (some (a.add n4)) 4 (c-n4)) rfl hHeld (fun w hSw=>by go_simp;try with_reducible rfl) ?_
     (try simp only[Act.put,za,zb,zc])
     refine tk (i:=13) (oi:=⟨some 53,Op.move (Operand.tmp 0),_,_,_,some (7,false)⟩) (v:=?_) rfl hHeld ?_ ?_;rotate_left
     ·rintro w -;go_simp;try with_reducible rfl
     (try simp only[Act.put,za,zb,zc])
     refine tk (i:=14) (oi:=⟨some 54,Op.move (Operand.tmp 4),_,_,_,some (7,false)⟩) (v:=?_) rfl hHeld ?_ ?_;rotate_left
     ·rintro w -;go_simp;try with_reducible rfl
     (try simp only[Act.put,za,zb,zc])
     refine tk (i:=15) (oi:=⟨some 55,Op.slice 32 (Operand.tmp 53) none (some (Operand.tmp 54)) none,_,_,_,some (7,false)⟩) (v:=.slice (some a) n4 c) rfl hHeld (fun w hSw=>by go_simp;try with_reducible rfl) ?_
     (try simp only[Act.put,za,zb,zc])
     refine wpAnyH_ready (rs:=[11]) (by kernel_rfl) (by simp) ?_
     refine AllReadyH.cons (o:=⟨some 51,Op.call { callee:=Callee.value (Operand.func 163),args:=#[Operand.tmp 50],argTypes:=#[32] },_,_,_,some (7,false)⟩) rfl (fun K hK=>?_) AllReadyH.nil
     go_simp
     go_at_call 163
     refine(Xi (HRW.out wb HX1.out.gr).2 (by rw[HTL.out.1];decide) (fun e=>by cases e)).mono ?_
     rintro e wc ⟨rb2,rfl,hr,hg,hle⟩;have HR2:=zd hr;have HG2:=zd hg;have HLE:=zd hle;clear hr hg hle;refine hK.out _ _ (HX1.out.grown HG2.out).tbx (fun hHeld=>?_)
     clear hK K
     (try simp only[Act.put,za,zb,zc])
     refine wpAnyH_ready (rs:=[12]) (by kernel_rfl) (by simp) ?_
     refine AllReadyH.cons (o:=⟨some 52,Op.call { callee:=Callee.value (Operand.func 222),args:=#[Operand.tmp 51],argTypes:=#[262] },_,_,_,some (7,false)⟩) rfl (fun K hK=>?_) AllReadyH.nil
     go_simp
     go_at_call 222
     refine(wordG (s:=(0,false)) HR2.out HTL.out.2.1).mono ?_;rintro e wd ⟨rfl,hr,ht⟩;rw[HTL.out.2.2];have HG3:=zd (zan HG2.out ht HLE.out);clear hr ht;refine hK.out _ _ (HX1.out.grown HG3.out).tbx (fun hHeld=>?_)
     clear hK K
     (try simp only[Act.put,za,zb,zc])
     refine wpAnyH_ready (rs:=[16]) (by kernel_rfl) (by simp) ?_
     refine AllReadyH.cons (o:=⟨some 56,Op.call { callee:=Callee.value (Operand.func 161),args:=#[Operand.tmp 55],argTypes:=#[32] },_,_,_,some (7,false)⟩) rfl (fun K hK=>?_) AllReadyH.nil
     go_simp
     go_at_call 161
     refine(zbd (HRW.out wd (HX1.out.grown HG3.out).gr).1 HBE.out (by have:=HEL.out;omega)).mono ?_
     rintro e we ⟨rfl,hg⟩;have HG4:=zd (HG3.out.trans hg);clear hg;refine hK.out _ _ (HX1.out.grown HG4.out).tbx (fun hHeld=>?_)
     clear hK K
     (try simp only[Act.put,za,zb,zc])
     refine tk (i:=17) (oi:=⟨some 57,Op.binOp BinOp.neq 172 (Operand.tmp 52) (Operand.tmp 56) 172,_,_,_,some (7,false)⟩) (v:=.bool false) rfl hHeld (fun w hSw=>by go_simp;try with_reducible rfl) ?_
     (try simp only[Act.put,za,zb,zc])
     refine tk (i:=18) (oi:=⟨some 58,Op.pick (Operand.tmp 47) (Operand.const (Value.bool true)) (Operand.tmp 57),_,_,_,none⟩) (v:=?_) rfl hHeld ?_ ?_;rotate_left
     ·rintro w -;go_simp;try with_reducible rfl
     (try simp only[Act.put,za,zb,zc])
     refine tk (i:=19) (oi:=⟨some 59,Op.move (Operand.tmp 58),_,_,_,none⟩) (v:=?_) rfl hHeld ?_ ?_;rotate_left
     ·rintro w -;go_simp;try with_reducible rfl
     (try simp only[Act.put,za,zb,zc])
     refine wpAnyH_take (i:=20) (oi:=⟨some 60,Op.load 97 (Operand.tmp 6),_,_,_,some (19,false)⟩) (v:=.agg #[.slice pk2 key.length ck2,.int .i64 (wrap64 (vn:Int)),.int .i64 (nd:Int),.slice pr2 row.length cr2]) rfl (by kernel_rfl) (by kernel_rfl) (by kernel_rfl) (fun _ _ _ h=>h) (yieldsIf_load_mid (by rfl) 97 _ rfl tb 0 rfl [.slice pk2 key.length ck2,.int .i64 (wrap64 (vn:Int)),.int .i64 (nd:Int),.slice pr2 row.length cr2] _ (fun w hSw=>js hSw) Tryz.underlying97 rfl (by kernel_rfl)) hHeld ?_
     (try simp only[Act.put,za,zb,zc])
     refine wpAnyH_ready (rs:=[21]) (by kernel_rfl) (by simp) ?_
     refine AllReadyH.cons (o:=⟨some 61,Op.call { callee:=Callee.value (Operand.func 65),args:=#[Operand.tmp 60],argTypes:=#[97] },_,_,_,some (19,false)⟩) rfl (fun K hK=>?_) AllReadyH.nil
     go_simp
     go_at_call 65
     refine(zcf we pk2 key.length ck2 (wrap64 (vn:Int)) (nd:Int) pr2 row.length cr2).mono ?_;rintro e wf ⟨rfl,hg⟩;have HG5:=zd (HG4.out.trans hg);clear hg;refine hK.out _ _ (HX1.out.grown HG5.out).tbx (fun hHeld=>?_)
     clear hK K
     (try simp only[Act.put,za,zb,zc])
     refine tk (i:=22) (oi:=⟨some 62,Op.unOp UnOp.not 4 (Operand.tmp 61),_,_,_,some (19,false)⟩) (v:=?_) rfl hHeld ?_ ?_;rotate_left
     ·rintro w -;go_simp;try with_reducible rfl
     (try simp only[Act.put,za,zb,zc])
     refine tk (i:=23) (oi:=⟨some 63,Op.pick (Operand.tmp 59) (Operand.const (Value.bool true)) (Operand.tmp 62),_,_,_,none⟩) (v:=?_) rfl hHeld ?_ ?_;rotate_left
     ·rintro w -;go_simp;try with_reducible rfl
     (try simp only[Act.put,za,zb,zc])
     refine wpAnyH_done (by kernel_rfl) ?_ _
     go_wp2_with fail
     go_meet
     case rel=>exact⟨by rw[HOKF.out],HX1.out.grown HG5.out,jz.turn HRX.out.1 (yl (HG1.out.trans HG5.out)),jz.turn HRX.out.2 (yl (HG1.out.trans HG5.out))⟩
    ·have hokf:OK=false:=by rw[HOK3.out];simp[hq]
     subst hokf;have hqi:¬((num (b.drop n4):Nat):Int)=((ya E:Nat):Int):=by omega
     refine wp_region_held_drew (S:=fun w':World=>w'.heap[tb]? = some (.cells #[.slice pk2 key.length ck2,.int .i64 (wrap64 (vn:Int)),.int .i64 (nd:Int),.slice pr2 row.length cr2] 97 (0,0))) (by kernel_rfl) HX0.out.tbx (fun hHeld=>?_)
     generalize w15.drew=X0 at *;refine tk (i:=0) (oi:=⟨some 40,Op.move (Operand.tmp 5),_,_,_,none⟩) (v:=?_) rfl hHeld ?_ ?_;rotate_left
     ·rintro w -;go_simp;try with_reducible rfl
     (try simp only[Act.put,za,zb,zc])
     refine wpAnyH_ready (rs:=[1]) (by kernel_rfl) (by simp) ?_
     refine AllReadyH.cons (o:=⟨some 41,Op.call { callee:=Callee.value (Operand.func 223),args:=#[Operand.tmp 40],argTypes:=#[262] },_,_,_,none⟩) rfl (fun K hK=>?_) AllReadyH.nil
     go_simp
     go_at_call 223
     refine(Vy HX0.out.rd).mono ?_;rintro e wa ⟨rfl,h5⟩;obtain rfl:X0=wa:=h5.symm;refine hK.out _ _ hHeld (fun hHeld=>?_)
     clear hK K
     (try simp only[Act.put,za,zb,zc])
     refine tk (i:=2) (oi:=⟨some 42,Op.move (Operand.tmp 41),_,_,_,none⟩) (v:=?_) rfl hHeld ?_ ?_;rotate_left
     ·rintro w -;go_simp;try with_reducible rfl
     (try simp only[Act.put,za,zb,zc])
     refine tk (i:=3) (oi:=⟨some 43,Op.move (Operand.tmp 5),_,_,_,some (2,false)⟩) (v:=?_) rfl hHeld ?_ ?_;rotate_left
     ·rintro w -;go_simp;try with_reducible rfl
     (try simp only[Act.put,za,zb,zc])
     refine wpAnyH_ready (rs:=[4]) (by kernel_rfl) (by simp) ?_
     refine AllReadyH.cons (o:=⟨some 44,Op.call { callee:=Callee.value (Operand.func 224),args:=#[Operand.tmp 43],argTypes:=#[262] },_,_,_,some (2,false)⟩) rfl (fun K hK=>?_) AllReadyH.nil
     go_simp
     go_at_call 224
     refine(Qo HX0.out.rd).mono ?_;rintro e wb ⟨rfl,hg⟩;have HX1:=zd (HX0.out.grown hg);have HT1:=zd (yl (A:=fun k=>k=rb∨k=tb∨k=rs) hg)
     have HG1:=zd hg;clear hg;simp only[←HL.out,Bool.false_eq_true,if_false];refine hK.out _ _ HX1.out.tbx (fun hHeld=>?_)
     clear hK K
     (try simp only[Act.put,za,zb,zc])
     refine tk (i:=5) (oi:=⟨some 45,Op.binOp BinOp.gtr 3 (Operand.tmp 44) (Operand.const (Value.int IntKind.i64 0)) 3,_,_,_,some (2,false)⟩) (v:=?_) rfl hHeld ?_ ?_;rotate_left
     ·rintro w -;go_simp;try with_reducible rfl
     (try simp only[Act.put,za,zb,zc])
     refine tk (i:=6) (oi:=⟨some 46,Op.pick (Operand.tmp 42) (Operand.const (Value.bool true)) (Operand.tmp 45),_,_,_,none⟩) (v:=?_) rfl hHeld ?_ ?_;rotate_left
     ·rintro w -;go_simp;try with_reducible rfl
     (try simp only[Act.put,za,zb,zc])
     refine tk (i:=7) (oi:=⟨some 47,Op.move (Operand.tmp 46),_,_,_,none⟩) (v:=?_) rfl hHeld ?_ ?_;rotate_left
     ·rintro w -;go_simp;try with_reducible rfl
     (try simp only[Act.put,za,zb,zc])
     refine tk (i:=8) (oi:=⟨some 48,Op.move (Operand.tmp 0),_,_,_,some (7,false)⟩) (v:=?_) rfl hHeld ?_ ?_;rotate_left
     ·rintro w -;go_simp;try with_reducible rfl
     (try simp only[Act.put,za,zb,zc])
     refine tk (i:=9) (oi:=⟨some 49,Op.move (Operand.tmp 4),_,_,_,some (7,false)⟩) (v:=?_) rfl hHeld ?_ ?_;rotate_left
     ·rintro w -;go_simp;try with_reducible rfl
     (try simp only[Act.put,za,zb,zc])
     refine tk (i:=10) (oi:=⟨some 50,Op.slice 32 (Operand.tmp 48) (some (Operand.tmp 49)) none none,_,_,_,some (7,false)⟩) (v:=.slice (some (a.add n4)) 4 (c-n4)) rfl hHeld (fun w hSw=>by go_simp;try with_reducible rfl) ?_
     (try simp only[Act.put,za,zb,zc])
     refine tk (i:=13) (oi:=⟨some 53,Op.move (Operand.tmp 0),_,_,_,some (7,false)⟩) (v:=?_) rfl hHeld ?_ ?_;rotate_left
     ·rintro w -;go_simp;try with_reducible rfl
     (try simp only[Act.put,za,zb,zc])
     refine tk (i:=14) (oi:=⟨some 54,Op.move (Operand.tmp 4),_,_,_,some (7,false)⟩) (v:=?_) rfl hHeld ?_ ?_;rotate_left
     ·rintro w -;go_simp;try with_reducible rfl
     (try simp only[Act.put,za,zb,zc])
     refine tk (i:=15) (oi:=⟨some 55,Op.slice 32 (Operand.tmp 53) none (some (Operand.tmp 54)) none,_,_,_,some (7,false)⟩) (v:=.slice (some a) n4 c) rfl hHeld (fun w hSw=>by go_simp;try with_reducible rfl) ?_
     (try simp only[Act.put,za,zb,zc])
     refine wpAnyH_ready (rs:=[11]) (by kernel_rfl) (by simp) ?_
     refine AllReadyH.cons (o:=⟨some 51,Op.call { callee:=Callee.value (Operand.func 163),args:=#[Operand.tmp 50],argTypes:=#[32] },_,_,_,some (7,false)⟩) rfl (fun K hK=>?_) AllReadyH.nil
     go_simp
     go_at_call 163
     refine(Xi (HRW.out wb HX1.out.gr).2 (by rw[HTL.out.1];decide) (fun e=>by cases e)).mono ?_
     rintro e wc ⟨rb2,rfl,hr,hg,hle⟩;have HR2:=zd hr;have HG2:=zd hg;have HLE:=zd hle;clear hr hg hle;refine hK.out _ _ (HX1.out.grown HG2.out).tbx (fun hHeld=>?_)
     clear hK K
     (try simp only[Act.put,za,zb,zc])
     refine wpAnyH_ready (rs:=[12]) (by kernel_rfl) (by simp) ?_
     refine AllReadyH.cons (o:=⟨some 52,Op.call { callee:=Callee.value (Operand.func 222),args:=#[Operand.tmp 51],argTypes:=#[262] },_,_,_,some (7,false)⟩) rfl (fun K hK=>?_) AllReadyH.nil
     go_simp
     go_at_call 222
     refine(wordG (s:=(0,false)) HR2.out HTL.out.2.1).mono ?_;rintro e wd ⟨rfl,hr,ht⟩;rw[HTL.out.2.2];have HG3:=zd (zan HG2.out ht HLE.out);clear hr ht;refine hK.out _ _ (HX1.out.grown HG3.out).tbx (fun hHeld=>?_)
     clear hK K
     (try simp only[Act.put,za,zb,zc])
     refine wpAnyH_ready (rs:=[16]) (by kernel_rfl) (by simp) ?_
     refine AllReadyH.cons (o:=⟨some 56,Op.call { callee:=Callee.value (Operand.func 161),args:=#[Operand.tmp 55],argTypes:=#[32] },_,_,_,some (7,false)⟩) rfl (fun K hK=>?_) AllReadyH.nil
     go_simp
     go_at_call 161
     refine(zbd (HRW.out wd (HX1.out.grown HG3.out).gr).1 HBE.out (by have:=HEL.out;omega)).mono ?_
     rintro e we ⟨rfl,hg⟩;have HG4:=zd (HG3.out.trans hg);clear hg;refine hK.out _ _ (HX1.out.grown HG4.out).tbx (fun hHeld=>?_)
     clear hK K
     (try simp only[Act.put,za,zb,zc])
     refine tk (i:=17) (oi:=⟨some 57,Op.binOp BinOp.neq 172 (Operand.tmp 52) (Operand.tmp 56) 172,_,_,_,some (7,false)⟩) (v:=.bool true) rfl hHeld (fun w hSw=>by go_simp;try with_reducible rfl) ?_
     (try simp only[Act.put,za,zb,zc])
     refine tk (i:=18) (oi:=⟨some 58,Op.pick (Operand.tmp 47) (Operand.const (Value.bool true)) (Operand.tmp 57),_,_,_,none⟩) (v:=?_) rfl hHeld ?_ ?_;rotate_left
     ·rintro w -;go_simp;try with_reducible rfl
     (try simp only[Act.put,za,zb,zc])
     refine tk (i:=19) (oi:=⟨some 59,Op.move (Operand.tmp 58),_,_,_,none⟩) (v:=?_) rfl hHeld ?_ ?_;rotate_left
     ·rintro w -;go_simp;try with_reducible rfl
     (try simp only[Act.put,za,zb,zc])
     refine wpAnyH_take (i:=20) (oi:=⟨some 60,Op.load 97 (Operand.tmp 6),_,_,_,some (19,false)⟩) (v:=undef) rfl (by kernel_rfl) (by kernel_rfl) (by kernel_rfl) (fun _ _ _ h=>h) (Or.inr ⟨by rfl,rfl⟩) hHeld ?_
     (try simp only[Act.put,za,zb,zc])
     refine wpAnyH_take (i:=21) (oi:=⟨some 61,Op.call { callee:=Callee.value (Operand.func 65),args:=#[Operand.tmp 60],argTypes:=#[97] },_,_,_,some (19,false)⟩) (v:=undef) rfl (by kernel_rfl) (by kernel_rfl) (by kernel_rfl) (fun _ _ _ h=>h) (Or.inr ⟨by rfl,rfl⟩) hHeld ?_
     (try simp only[Act.put,za,zb,zc])
     refine wpAnyH_take (i:=22) (oi:=⟨some 62,Op.unOp UnOp.not 4 (Operand.tmp 61),_,_,_,some (19,false)⟩) (v:=undef) rfl (by kernel_rfl) (by kernel_rfl) (by kernel_rfl) (fun _ _ _ h=>h) (Or.inr ⟨by rfl,rfl⟩) hHeld ?_
     (try simp only[Act.put,za,zb,zc])
     refine tk (i:=23) (oi:=⟨some 63,Op.pick (Operand.tmp 59) (Operand.const (Value.bool true)) (Operand.tmp 62),_,_,_,none⟩) (v:=?_) rfl hHeld ?_ ?_;rotate_left
     ·rintro w -;go_simp;try with_reducible rfl
     (try simp only[Act.put,za,zb,zc])
     refine wpAnyH_done (by kernel_rfl) ?_ _
     go_wp2_with fail
     go_meet
     case rel=>exact⟨rfl,HX1.out.grown HG4.out,jz.turn HRX.out.1 (yl (HG1.out.trans HG4.out)),jz.turn HRX.out.2 (yl (HG1.out.trans HG4.out))⟩
 case rest=>
  obtain⟨rfl,hgi,hk,hr⟩:=hcut;have HGI:=zd hgi;have HKK:=zd hk;have HRR2:=zd hr;obtain⟨d0,d1,d2,d3,df⟩:=yx hgi.rsx;obtain⟨c0,c1,c2,c3,cf⟩:=hgi.cells;clear hgi hk hr hok
  cases OK with
  | false=>
   go_wp2_with fail
   have hb4:=set4 HGI.out.rsx (.slice none 0 0) (.int .i64 0) (.int .i64 0) (.slice none 0 0);refine bodyPost_ret (vm rfl _ _ rs 97 #[.slice none 0 0,.int .i64 0,.int .i64 0,.slice none 0 0] (0,0) _ rfl hb4 rfl Tryz.underlying97 (by kernel_rfl)) rfl ?_
   exact⟨Ze HGI.out.gr HGI.out.lo.2.2.1,Or.inl ⟨rfl,rfl⟩⟩
  | true=>
   go_wp2_with fail
   have hb4:=set4 HGI.out.rsx (.slice pk2 key.length ck2) (.int .i64 (wrap64 (vn:Int))) (.int .i64 (nd:Int)) (.slice pr2 row.length cr2);refine bodyPost_ret (vm rfl _ _ rs 97 #[.slice pk2 key.length ck2,.int .i64 (wrap64 (vn:Int)),.int .i64 (nd:Int),.slice pr2 row.length cr2] (0,0) _ rfl hb4 rfl Tryz.underlying97 (by kernel_rfl)) rfl ?_
   exact⟨Ze HGI.out.gr HGI.out.lo.2.2.1,Or.inr ⟨rfl,pk2,ck2,pr2,cr2,rfl,zgh HKK.out,zgh HRR2.out⟩⟩
end
end Go.Proofs.YtbcbhlfjgobejaaGreat
