/- slices.SortedFunc over the keys of a map of sets, by id: the walks. Conditions: none, or as the theorems say. -/
import Derived.Test.YtjfelfjobeeenaaGreatN19
import Derived.Test.YtjfelfjobeeenaaGreatN18
import Derived.Test.YtjfelfjobeeenaaGreatN3
import Derived.Laws.OwnMore
namespace Go.Proofs.YtjfelfjobeeenaaGreat
set_option maxHeartbeats 200000000
set_option linter.unusedVariables false
set_option linter.unusedSimpArgs false
open Go.RowKit Go.Sf Go.Shelf Go.Maps Go.Sort Go.Lib
section
attribute [local go_sem] Oper.semAt_some
set_option maxRecDepth 100000 in
theorem zts (F:Fence) (n:Nat) (h10:F.fn 186) (hro:F.round=none) (hn:1≤n) (l Bm b:Nat) (m:List (ID × ye)) (J Jx:List ID→World→Prop)
  (hY:∀pre x W,J pre W→pre.length<m.length→YieldAt F (n-1) Tryz.prog l #[zx x] W fun e W'=>(e = .returned (.bool true)∧J (pre ++ [x]) W'∧KeepsWalks W W')∨(e = .returned (.bool false)∧Jx (pre ++ [x]) W'))
  (W:World) (hJ:AbidesFrom W.heap.size J) (hm:W.cell? ⟨Bm,0,none⟩=some (.map (some b))) (hown:zw W b zx yw m) (h0:J [] W) :
  CallsIn F n Tryz.prog 186 #[.func (.yield l) #[] #[],.pointer (some ⟨Bm,0,none⟩)] W fun e W'=>(∃v,e = .returned v)∧((∃xs:List ID,xs.Perm (m.map (·.1))∧J xs W')∨(∃pre:List ID,True∧Jx pre W')):=by
 have hnd:=hown.nodup;refine callsIn_of_wp Tryz.func186 rfl h10 ?_ hro;simp only[Tryz.ntmps186,List.size_toArray,List.length_cons,List.length_nil,Nat.reduceAdd,Nat.reduceSub,Array.replicate_succ,Array.replicate_zero,List.push_toArray,List.append_toArray,List.nil_append,List.cons_append]
 gi_wp2_with (gi_at_range;refine za1 _ rfl _ _ rfl Tryz.underlying120 b m rfl hown ?_;intro w0 hit hg0 hs0)
 go_frame
 gi_loopw [3] (fun _ wr=>∃(seen:ID→Bool) (ss:List ID),ut wr W.heap.size b zx yw m seen∧Xx m seen ss∧J ss wr) (fun _ wr=>zfe wr W.heap.size b)
 case atStart=>exact⟨_,[],hit,Xx.start m,hJ [] W w0 none h0 hg0 (fun r e=>by cases e)⟩
 case round=>
  obtain⟨seen,ss,hit,hC,hJs⟩:=hrel
  gi_wp2_with (gi_at_next;refine zbp _ rfl _ rfl Vb W.heap.size b m seen rfl hit ?_ ?_)
  ·intro hall
   gi_wp2
   go_end0
   exact⟨⟨_,rfl⟩,.inl ⟨ss,hC.perm hnd hall,hJs⟩⟩
  ·rintro⟨kk,kv⟩ v w2 hc
   have hJ2:=hJ ss wr w2 (some W.heap.size) hJs hc.grown (fun r e=>by cases e;exact⟨Nat.le_refl _,hit.walk⟩)
   have hJ3:=hJ ss w2 (w2.alloc (.cells #[.string kk,.int .i64 kv] 54)) none hJ2 (zc _ _ _) (fun r e=>by cases e)
   have hlt:=hC.lt hnd hc.mem hc.new;obtain⟨fn,tmps,assign,body,hy,hR⟩:=hY ss ⟨kk,kv⟩ _ hJ3 hlt;have hen:=hc.entry;simp only[zx] at hy hen ⊢;have hit2:=hc.iter;have hleft:=hit2.left
   gi_wp2
   refine hR.mono ?_;rintro e W3 (⟨rfl,hJ4,hk3⟩|⟨rfl,hJx3⟩)
   ·have hit3:=(ut.kept hit2 (zc w2 (.cells #[.string kk,.int .i64 kv] 54) none) (by simp) (by simp)).walks hk3
    gi_wp2
    go_roundw
    case rel=>exact⟨_,ss ++ [⟨kk,kv⟩],hit3,hC.step hc.mem hc.new,hJ4⟩
    case measure=>
     rw[hit3.left,hit.left]
     exact Vd hc.mem hc.new
   ·gi_wp2
    refine bodyPost_ret (results_none rfl _ _ _) rfl ?_
    exact⟨⟨_,rfl⟩,.inr ⟨_,trivial,hJx3⟩⟩
theorem zia (F:Fence) (n:Nat) (h10:F.fn 186) (hro:F.round=none) (hn:1≤n) (Bm b:Nat) (m:List (ID × ye)) (w:World) (hBm:Bm<w.heap.size) (hm:w.cell? ⟨Bm,0,none⟩=some (.map (some b))) (hown:zw w b zx yw m) :
  SeqStopsK F n Tryz.prog 186 #[.pointer (some ⟨Bm,0,none⟩)] (fun x:ID=>#[zx x]) KeepsWalks (fun xs=>xs.Perm (m.map (·.1))) (fun _=>True) m.length w:=fun l J Jx W hW hJ _ hY h0=>
 zts F n h10 hro hn l Bm b m J Jx hY W hJ ((hW.cell (p:=⟨Bm,0,none⟩) hBm).trans hm) (hown.below hown.lt hW) h0
theorem zow (mb:Option Nat) (W:World):Calls Tryz.prog 158 #[.map mb] W fun e w'=>
  e = .returned (.func (.func 186) #[] #[.pointer (some ⟨W.heap.size,0,none⟩)])∧w'=W.alloc (.cells #[.map mb] 120):=by
 have hmf:∀(fn:Fn) (first cap:Array Value) (w:World),(Instr.makeFunc fn first cap).run Tryz.prog w = .ok (.func fn first cap) w:=fun _ _ _ _=>rfl
 go_enter Tryz.func158,Tryz.ntmps158
 go_wp2
 go_ret
 exact⟨rfl,rfl⟩
end
def HoldRow (base:Nat) (w':World) (v:Value) (m:List (ID × ye)) (l:List ID):Prop:=jl base w' v l∧l.Perm (m.map (·.1))∧zbr l∧(v = .slice none 0 0↔l = [])
theorem zgx (Bm b:Nat) (m:List (ID × ye)) (w:World) (hBm:Bm<w.heap.size) (hm:w.cell? ⟨Bm,0,none⟩=some (.map (some b))) (hown:zw w b zx yw m) (hl:m.length≤1000000) :
  Calls Tryz.prog 140 #[.func (.func 186) #[] #[.pointer (some ⟨Bm,0,none⟩)]] w fun e w'=>∃(v:Value) (ss:List ID),e = .returned v∧ss.Perm (m.map (·.1))∧w'.ownsRow w.heap.size 54 2 v ss.length (ss.flatMap ya)∧(v = .slice none 0 0↔ss = [])∧w.grownBy w' none:=by
 have h:=zit Fence.wide 5 trivial trivial rfl (by omega) 186 #[.pointer (some ⟨Bm,0,none⟩)] trivial (enters_of Tryz.func186 (by kernel_rfl) rfl)
  (fun xs=>xs.Perm (m.map (·.1))) m.length hl w (zia Fence.wide _ trivial rfl (by omega) Bm b m w hBm hm hown)
 exact(callsIn_wide.1 h).mono fun e w' ⟨v,ss,h1,h2,h3,h4,h5⟩=>⟨v,ss,h1,h2,h3,h4,jo h5⟩
set_option maxRecDepth 100000 in
theorem zla (Bm b:Nat) (m:List (ID × ye)) (w:World) (hBm:Bm<w.heap.size) (hm:w.cell? ⟨Bm,0,none⟩=some (.map (some b))) (hown:zw w b zx yw m) (hl:m.length≤1000000) :
  Calls Tryz.prog 78 #[.func (.func 186) #[] #[.pointer (some ⟨Bm,0,none⟩)],.func (.func 80) #[] #[]] w
   fun e w'=>∃v l,e = .returned v∧HoldRow w.heap.size w' v m l∧w.grownBy w' none:=by
 have HC:=za (zgx Bm b m w hBm hm hown hl);have hnd:=hown.nodup;clear hm hown
 go_enter Tryz.func78,Tryz.ntmps78
 go_wp2_with (go_at_call 140;refine HC.out.mono ?_;rintro e w1 ⟨v,ss,rfl,hp,hrow,hnil,hg⟩;have HP:=za (And.intro hp (And.intro hrow (And.intro hnil hg)));clear hp hrow hnil hg)
 obtain⟨hp,hrow,hnil,hg⟩:=HP.out;have hlen:ss.length≤1000000:=by rw[hp.length_eq];simpa using hl
 rcases hrow.2 with ⟨rfl,hz⟩|⟨g,cap,cur,rfl,hbase,hgb,r1,r2,r3,r4⟩
 ·have hss:ss = []:=List.eq_nil_of_length_eq_zero hz
  subst hss
  go_wp2_with (go_at_call 141;refine(zhz none 0 _ _).mono ?_;rintro e w2 ⟨rfl,rfl⟩)
  go_ret
  exact⟨_,[],rfl,⟨hrow,hp,fun i j h1 h2=>by simp at h2,by simp⟩,hg⟩
 ·have HS:=za (zjr g cap ss w1 cur hgb r4 hlen)
  have HH:=za (And.intro hbase (And.intro hgb (And.intro r1 (And.intro r2 (And.intro r3 (And.intro hnil (And.intro hg hp)))))));clear hbase hgb r1 r2 r3 r4 hnil hg hp hrow HP
  go_wp2_with (go_at_call 141;refine HS.out.mono ?_;rintro e w2 ⟨rfl,l',n,os,hp2,ho2,rfl⟩;have HZ:=za (And.intro hp2 ho2);clear hp2 ho2)
  go_ret
  obtain⟨hbase,hgb,r1,r2,r3,hnil,hg,hp⟩:=HH.out;obtain⟨hp2,ho2⟩:=HZ.out;refine⟨_,l',rfl,⟨?_,hp2.trans hp,ho2,?_⟩,jk hg (zax _) (fun k hk=>by cases hk;exact hbase)⟩
  ·unfold jl
   rw[hp2.length_eq]
   exact zay (by rw[za9,hp2.length_eq]) hbase hgb r1 r2 r3
  ·constructor
   ·intro h;cases h
   ·intro h;subst h
    have:ss = []:=hp2.symm.eq_nil;have:=hnil.2 this
    cases this
open Go.RowKit Go.Sf Go.Shelf
structure ue where
 id:ID
 node:Int
 zvx:Int
 ref:Bool
structure yp where
 N:Int
 W:Int
 offers:Int
 next:Int
 zv0:List Int
 calls:List (Int × yz)
 vals:List (ByteArray × Val)
 zv1:List (ID × xd)
 holds:List ue
def je (R:yp) (n:Int):yz:=(zt R.calls n).getD ⟨0,0,false,0⟩
def qo (R:yp) (k:ByteArray):Val:=(zt R.vals k).getD ⟨0,false⟩
def rlook (R:yp) (k:ByteArray):Int:=if (qo R k).dead=true then 0 else (qo R k).zvz
def Qe (R:yp) (i:ID):Bool:=(zt R.zv1 i).isSome
def rwanted (R:yp) (i:ID):Bool:=Qe R i || (decide (0<i.zvz) && decide (rlook R i.key=i.zvz))
def ui (R:yp) (a:Int):Int:=R.zv0.getD a.toNat 0
def uz (R:yp) (h:ue):Bool:=rwanted R h.id && (decide (ui R h.node=h.zvx) && (!h.ref || Qe R h.id))
def ve (R:yp):yp:={ R with holds:=R.holds.filter (uz R) }
def yg (R:yp) (h:ue):yp:={ R with holds:=(R.holds.filter fun x=>decide (x.id≠h.id) || decide (x.node≠h.node)) ++ [h] }
def us (R:yp) (i:ID) (ref:Bool):Nat:=(R.holds.filter fun h=>decide (h.id=i) && h.ref == ref).length
def uf (R:yp) (i:ID):yp:={ R with zv1:=R.zv1.eraseP fun p=>decide (p.1=i) }
def qx (R:yp) (i:ID) (p:xd) (code:Int):yp:=
 if (je R p.zvw).zvy=p.zvy∧(je R p.zvw).zvz=i.zvz then { R with calls:=ym R.calls p.zvw ⟨(je R p.zvw).zvy,(je R p.zvw).zvz,true,code⟩ } else R
def vq (R:yp) (c:Cmd):Bool:=decide ((je R c.zvw).zvy<c.zvy)
def xp (R:yp) (c:Cmd):yp:={ R with zv1:=R.zv1.eraseP fun p=>decide (p.2.zvw=c.zvw) }
def js (R:yp) (c:Cmd):Bool:=decide (1≤c.zvx) && decide (ui R c.node=c.zvx)
def Xt (R:yp) (c:Cmd):yp:=if (qo R c.key).zvz<c.zvz then { R with vals:=ym R.vals c.key ⟨c.zvz,false⟩ } else R
def zf1 (R:yp) (c:Cmd):yp:=
 if (js R c && rwanted R ⟨c.key,c.zvz⟩)=true then
  match zt (yg R ⟨⟨c.key,c.zvz⟩,c.node,c.zvx,false⟩).zv1 ⟨c.key,c.zvz⟩ with
  | none=>yg R ⟨⟨c.key,c.zvz⟩,c.node,c.zvx,false⟩
  | some p=>if (us (yg R ⟨⟨c.key,c.zvz⟩,c.node,c.zvx,false⟩) ⟨c.key,c.zvz⟩ false:Int)<R.W then yg R ⟨⟨c.key,c.zvz⟩,c.node,c.zvx,false⟩
   else ve (qx (Xt (uf (yg R ⟨⟨c.key,c.zvz⟩,c.node,c.zvx,false⟩) ⟨c.key,c.zvz⟩) c) ⟨c.key,c.zvz⟩ p 0)
 else R
def Vo (R:yp) (c:Cmd):yp:=
 match zt R.zv1 ⟨c.key,c.zvz⟩ with
 | none=>R
 | some p=>if js R c=true then
   ve (if R.N-(us (yg R ⟨⟨c.key,c.zvz⟩,c.node,c.zvx,true⟩) ⟨c.key,c.zvz⟩ true:Int)<R.W then qx (uf (yg R ⟨⟨c.key,c.zvz⟩,c.node,c.zvx,true⟩) ⟨c.key,c.zvz⟩) ⟨c.key,c.zvz⟩ p 181 else yg R ⟨⟨c.key,c.zvz⟩,c.node,c.zvx,true⟩)
  else R
def rdo (R:yp) (c:Cmd):yp:=
 if c.kind=1 then ve { R with offers:=R.offers+1 }
 else if c.kind=2 then ve (if ui R c.node<c.zvx∧c.zvx≤R.offers then { R with zv0:=R.zv0.set c.node.toNat c.zvx } else R)
 else if c.kind=3 then ve (if vq R c=true then { xp R c with zv1:=(xp R c).zv1 ++ [(⟨c.key,R.next⟩,⟨c.zvw,c.zvy⟩)],calls:=ym R.calls c.zvw ⟨c.zvy,R.next,false,0⟩,next:=R.next+1 } else R)
 else if c.kind=4 then zf1 R c
 else if c.kind=5 then Vo R c
 else if c.kind=6 then ve (if vq R c=true then { xp R c with vals:=ym R.vals c.key ⟨R.next,true⟩,calls:=ym R.calls c.zvw ⟨c.zvy,0,true,0⟩,next:=R.next+1 } else R)
 else ve (if vq R c=true then { xp R c with calls:=ym R.calls c.zvw ⟨c.zvy,0,true,c.code⟩ } else R)
def zce (n w:Int):yp:=⟨n,w,0,1,List.replicate n.toNat 0,[],[],[],[]⟩
structure Zq (T:Tab) (R:yp):Prop where
 N:R.N=T.zv0.length
 W:R.W=T.w
 offers:R.offers=T.offers
 next:R.next=T.next
 zv0:R.zv0=T.zv0
 calls:∀m,zt R.calls m=zt T.calls m
 vals:∀s,zt R.vals s=zt T.values s
 zv1:∀i,zt R.zv1 i=zt T.pending i
 pn:(R.zv1.map (·.1)).Nodup
 vn:(R.vals.map (·.1)).Nodup
 tvn:(T.values.map (·.1)).Nodup
 hold:∀i a,a∈memH T.holds i↔∃h∈R.holds,h.id=i∧h.node=a∧h.ref=false∧ui R h.node=h.zvx
 refu:∀i a,a∈memH T.zv2 i↔∃h∈R.holds,h.id=i∧h.node=a∧h.ref=true∧ui R h.node=h.zvx
 hb:∀h∈R.holds,0≤h.node∧h.node<R.N
 hn:(R.holds.map fun h=>(h.id,h.node)).Nodup
structure Sim (T:Tab) (R:yp):Prop where
 s0:Zq T R
 kept:∀h∈R.holds,uz R h=true
section
variable {n k : Nat} {T U : Tab} {R S : yp}
theorem Zq.callV (h:Zq T R) (m:Int):je R m=callV T m:=by unfold je Go.Proofs.YtjfelfjobeeenaaGreat.callV;rw[h.calls]
theorem Zq.lookV (h:Zq T R) (s:ByteArray):qo R s=lookV T s:=by unfold qo Go.Proofs.YtjfelfjobeeenaaGreat.lookV;rw[h.vals]
theorem Zq.look (h:Zq T R) (s:ByteArray):rlook R s=look T s:=by unfold rlook Go.Proofs.YtjfelfjobeeenaaGreat.look;rw[h.lookV]
theorem Zq.wanted (h:Zq T R) (i:ID):rwanted R i=yl T i:=by unfold rwanted Qe yl;rw[h.look,h.zv1]
theorem Zq.life (h:Zq T R) {a:Int} (h0:0≤a) (h1:a<R.N):ui R a=yq T a:=by
 unfold ui yq;rw[if_neg (by rw[h.N] at h1;omega),h.zv0]
theorem Zq.begins (h:Zq T R) (c:Cmd):vq R c=un T c:=by unfold vq un;rw[h.callV]
theorem zr6 (h:∀x∈R.holds,uz R x=true):ve R=R:=by
 unfold ve;rw[List.filter_eq_self.2 h]
theorem zmb (h:ue):uz (ve R) h=uz R h:=rfl
theorem Zd (hI:Inv n k T) (h:Zq T R):Sim (jt T) (ve R):=by
 refine⟨⟨h.N,h.W,h.offers,h.next,h.zv0,h.calls,h.vals,h.zv1,h.pn,h.vn,h.tvn,?_,?_,?_,?_⟩,?_⟩
 ·intro i a
  show a∈memH (T.holds.filter fun p=>!qu T p.1 p.2) i↔_
  cases hw:yl T i with
  | false=>
   rw[Ve hI.hm _ i (fun s=>by simp[qu,hw])]
   refine⟨fun h=>by simp at h,?_⟩
   rintro⟨x,hx,rfl,_⟩;have:=(List.mem_filter.1 hx).2;simp[uz,h.wanted,hw] at this
  | true=>
   have hm:a∈memH (T.holds.filter fun p=>!qu T p.1 p.2) i↔a∈memH T.holds i:=by
    unfold memH;rw[Zf hI.hm.nodup]
    cases e:zt T.holds i with
    | none=>simp
    | some s=>
     simp only[Option.bind_some,Option.map_some,Option.getD_some]
     by_cases hs:s.mem = []
     ·simp[qu,hs]
     ·have:s.mem.length≠0:=fun e=>hs (List.eq_nil_of_length_eq_zero e)
      simp[qu,hw,hs]
   rw[hm,h.hold]
   constructor
   ·rintro⟨x,hx,rfl,e2,e3,e4⟩
    exact⟨x,List.mem_filter.2 ⟨hx,by simp[uz,h.wanted,hw,e3,e4]⟩,rfl,e2,e3,e4⟩
   ·rintro⟨x,hx,rfl,e2,e3,e4⟩
    exact⟨x,(List.mem_filter.1 hx).1,rfl,e2,e3,e4⟩
 ·intro i a
  show a∈memH (T.zv2.filter fun p=>!Vp T p.1 p.2) i↔_
  cases hw:(zt T.pending i).isSome with
  | false=>
   rw[Ve hI.rm _ i (fun s=>by simp[Vp,hw])]
   refine⟨fun h=>by simp at h,?_⟩
   rintro⟨x,hx,rfl,_,e3,_⟩;have:=(List.mem_filter.1 hx).2;simp[uz,Qe,h.zv1,hw,e3] at this
  | true=>
   have hm:a∈memH (T.zv2.filter fun p=>!Vp T p.1 p.2) i↔a∈memH T.zv2 i:=by
    unfold memH;rw[Zf hI.rm.nodup]
    cases e:zt T.zv2 i with
    | none=>simp
    | some s=>
     simp only[Option.bind_some,Option.map_some,Option.getD_some]
     by_cases hs:s.mem = []
     ·simp[Vp,hs]
     ·have:s.mem.length≠0:=fun e=>hs (List.eq_nil_of_length_eq_zero e)
      simp[Vp,hw,hs]
   rw[hm,h.refu]
   constructor
   ·rintro⟨x,hx,rfl,e2,e3,e4⟩
    exact⟨x,List.mem_filter.2 ⟨hx,by simp[uz,rwanted,Qe,h.zv1,hw,e4]⟩,rfl,e2,e3,e4⟩
   ·rintro⟨x,hx,rfl,e2,e3,e4⟩
    exact⟨x,(List.mem_filter.1 hx).1,rfl,e2,e3,e4⟩
 ·intro x hx;exact h.hb x (List.mem_filter.1 hx).1
 ·exact h.hn.sublist ((List.filter_sublist).map _)
 ·intro x hx;rw[zmb];exact(List.mem_filter.1 hx).2
theorem Sim.life (h:Sim T R) {x:ue} (hx:x∈R.holds):ui R x.node=x.zvx:=by
 have:=h.kept x hx;simp only[uz,Bool.and_eq_true,decide_eq_true_eq] at this
 exact this.2.1
end
def zac (c:Int × yz):List Value:=[.int .i64 c.1,.int .i64 c.2.zvy,.int .i64 c.2.zvz,.bool c.2.done,.int .i64 c.2.code]
def zae (v:ByteArray × Val):List Value:=[.string v.1,.int .i64 v.2.zvz,.bool v.2.dead]
def zad (p:ID × xd):List Value:=[.string p.1.key,.int .i64 p.1.zvz,.int .i64 p.2.zvw,.int .i64 p.2.zvy]
def za7 (h:ue):List Value:=[.string h.id.key,.int .i64 h.id.zvz,.int .i64 h.node,.int .i64 h.zvx,.bool h.ref]
theorem zp5 {α:Type} (enc:α→List Value) (sz:Nat) (he:∀x,(enc x).length=sz):∀(l:List α) (i j:Nat) (hi:i<l.length),j<sz→(l.flatMap enc)[i*sz+j]? = (enc l[i])[j]?
 | [],i,j,hi,_=>by simp at hi
 | x :: r,0,j,hi,hj=>by
  simp only[List.flatMap_cons,Nat.zero_mul,Nat.zero_add,List.getElem_cons_zero];rw[List.getElem?_append_left (by rw[he];exact hj)]
 | x :: r,i+1,j,hi,hj=>by
  simp only[List.flatMap_cons,List.getElem_cons_succ];rw[List.getElem?_append_right (by rw[he,Nat.succ_mul];omega),he]
  have e:(i+1)*sz+j-sz=i*sz+j:=by rw[Nat.succ_mul];omega
  rw[e]
  exact zp5 enc sz he r i j (by simpa using hi) hj
theorem zd9 {α:Type} (enc:α→List Value) (sz:Nat) (he:∀x,(enc x).length=sz):∀(l:List α),(l.flatMap enc).length=l.length*sz
 | []=>by simp
 | x :: r=>by simp only[List.flatMap_cons,List.length_append,he,zd9 enc sz he r,List.length_cons,Nat.succ_mul];omega
def uu {α:Type} (W:World) (E:TypeId) (sz:Nat) (enc:α→List Value) (v:Value) (l:List α):Prop:=W.ownsRow 0 E sz v l.length (l.flatMap enc)
section
variable {α : Type} {W W' : World} {E : TypeId} {sz : Nat} {enc : α → List Value} {v : Value} {l : List α}
theorem uu.form (h:uu W E sz enc v l):∃p cap,v = .slice p l.length cap∧cap≤9223372036854775807∧l.length≤cap:=by
 rcases h.2 with ⟨e1,h0⟩|⟨b,c,cur,e1,_,_,r1,r2,_⟩
 ·exact⟨none,0,by rw[e1,h0],by omega,by omega⟩
 ·exact⟨_,_,e1,by unfold maxLen at r2;omega,r1⟩
theorem uu.at (he:∀x,(enc x).length=sz) (h:uu W E sz enc v l):l = []∨∃g cap,v = .slice (some ⟨g,0,none⟩) l.length cap∧(∀i,(hi:i<l.length)→∀j u,(enc l[i])[j]? = some u→W.cell? ⟨g,i*sz+j,none⟩=some u)∧∀i,W.frozen? ⟨g,i,none⟩=false:=by
 rcases h.2 with ⟨e1,h0⟩|⟨b,c,cur,e1,_,hb,r1,r2,r3,r4⟩
 ·exact Or.inl (List.eq_nil_of_length_eq_zero h0)
 ·refine Or.inr ⟨b,c,e1,fun i hi j u hu=>?_,fun i=>by simp[World.frozen?,hb]⟩
  have hj:j<sz:=by
   have:=(List.getElem?_eq_some_iff.1 hu).1;rw[he] at this
   exact this
  have h2:=h;unfold uu at h2;rw[e1] at h2;have hlt:i*sz+j<l.length*sz:=by
   have:(i+1)*sz≤l.length*sz:=Nat.mul_le_mul_right _ hi;rw[Nat.succ_mul] at this;omega
  rw[h2.cellAt _ hlt,zp5 enc sz he l i j hi hj]
  exact hu
theorem uu.same (h:uu W E sz enc v l) (hs:∀g,v.ownBlock=some g→W'.heap[g]? = W.heap[g]?):uu W' E sz enc v l:=by
 refine⟨h.1,?_⟩
 rcases h.2 with hn|⟨b,cap,cur,rfl,h1,hb,h3⟩
 ·exact .inl hn
 ·exact .inr ⟨b,cap,cur,rfl,h1,(hs b (by simp[Value.ownBlock])).trans hb,h3⟩
theorem uu.lt (h:uu W E sz enc v l) {g:Nat} (hg:v.ownBlock=some g):g<W.heap.size:=(World.ownsRow.lt h g hg).2
theorem uu.kind (h:uu W E sz enc v l) {g:Nat} (hg:v.ownBlock=some g):∃c,W.heap[g]? = some (.cells c E (0,0)):=by
 rcases h.2 with ⟨rfl,_⟩|⟨b,cap,cur,rfl,_,hb,_⟩
 ·simp[Value.ownBlock] at hg
 ·simp[Value.ownBlock] at hg
  subst hg
  exact⟨_,hb⟩
theorem uu.grown (h:uu W E sz enc v l) {r:Option Nat} (hg:W.grownBy W' r) (hr:∀g,v.ownBlock=some g→r≠some g):uu W' E sz enc v l:=
 h.same fun g hg2=>hg.block g (h.lt hg2) (fun e=>hr g hg2 e.symm)
end
theorem xe {W:World} {α:Type} {E E':TypeId} {sz:Nat} {enc:α→List Value} {v:Value} {l:List α} (h:uu W E sz enc v l) {g:Nat} {c:Array Value} {fr:Nat × Nat} (hg:W.heap[g]? = some (.cells c E' fr)) (hne:E≠E'):v.ownBlock≠some g:=by
 intro e;obtain⟨c',h2⟩:=h.kind e;rw[hg] at h2
 cases h2
 exact hne rfl
def Yl (n:Int):List Value:=[.int .i64 n]
theorem lenC:∀x,(zac x).length=5:=fun _=>rfl
theorem lenV:∀x,(zae x).length=3:=fun _=>rfl
theorem zeh:∀x,(zad x).length=4:=fun _=>rfl
theorem zkk:∀x,(za7 x).length=5:=fun _=>rfl
theorem lenI:∀x,(Yl x).length=1:=fun _=>rfl
structure vw (W:World) (rb:Nat) (R:yp) (vL vC vV vP vH:Value):Prop where
 box:W.heap[rb]? = some (.cells #[.int .i64 R.N,.int .i64 R.W,.int .i64 R.offers,.int .i64 R.next,vL,vC,vV,vP,vH] 52 (0,0))
 zv0:uu W 2 1 Yl vL R.zv0
 calls:uu W 193 5 zac vC R.calls
 vals:uu W 202 3 zae vV R.vals
 zv1:uu W 190 4 zad vP R.zv1
 holds:uu W 197 5 za7 vH R.holds
section
variable {W W' : World} {rb : Nat} {R : yp} {vL vC vV vP vH : Value}
theorem vw.c0 (h:vw W rb R vL vC vV vP vH):W.cell? ⟨rb,0,none⟩=some (.int .i64 R.N):=(zh h.box 0).trans rfl
theorem vw.c1 (h:vw W rb R vL vC vV vP vH):W.cell? ⟨rb,1,none⟩=some (.int .i64 R.W):=(zh h.box 1).trans rfl
theorem vw.c2 (h:vw W rb R vL vC vV vP vH):W.cell? ⟨rb,2,none⟩=some (.int .i64 R.offers):=(zh h.box 2).trans rfl
theorem vw.c3 (h:vw W rb R vL vC vV vP vH):W.cell? ⟨rb,3,none⟩=some (.int .i64 R.next):=(zh h.box 3).trans rfl
theorem vw.c4 (h:vw W rb R vL vC vV vP vH):W.cell? ⟨rb,4,none⟩=some vL:=(zh h.box 4).trans rfl
theorem vw.c5 (h:vw W rb R vL vC vV vP vH):W.cell? ⟨rb,5,none⟩=some vC:=(zh h.box 5).trans rfl
theorem vw.c6 (h:vw W rb R vL vC vV vP vH):W.cell? ⟨rb,6,none⟩=some vV:=(zh h.box 6).trans rfl
theorem vw.c7 (h:vw W rb R vL vC vV vP vH):W.cell? ⟨rb,7,none⟩=some vP:=(zh h.box 7).trans rfl
theorem vw.c8 (h:vw W rb R vL vC vV vP vH):W.cell? ⟨rb,8,none⟩=some vH:=(zh h.box 8).trans rfl
theorem vw.free (h:vw W rb R vL vC vV vP vH) (i:Nat):W.frozen? ⟨rb,i,none⟩=false:=yr h.box i
theorem vw.lt (h:vw W rb R vL vC vV vP vH):rb<W.heap.size:=(Array.getElem?_eq_some_iff.1 h.box).1
theorem vw.grown (h:vw W rb R vL vC vV vP vH) (hg:W.grownBy W' none):vw W' rb R vL vC vV vP vH:=
 ⟨(hg.block rb h.lt (by simp)).trans h.box,h.zv0.grown hg (by simp),h.calls.grown hg (by simp),h.vals.grown hg (by simp),h.zv1.grown hg (by simp),h.holds.grown hg (by simp)⟩
end
def RAt (bs:Nat→Prop) (W:World) (rb:Nat) (R:yp):Prop:=
 ∃vL vC vV vP vH,vw W rb R vL vC vV vP vH∧bs rb∧(∀g,vL.ownBlock=some g→bs g)∧(∀g,vC.ownBlock=some g→bs g)∧(∀g,vV.ownBlock=some g→bs g)∧(∀g,vP.ownBlock=some g→bs g)∧(∀g,vH.ownBlock=some g→bs g)
theorem RAt.grown {bs:Nat→Prop} {W W':World} {rb:Nat} {R:yp} (h:RAt bs W rb R) (hg:W.grownBy W' none):RAt bs W' rb R:=by
 obtain⟨vL,vC,vV,vP,vH,h1,h2⟩:=h
 exact⟨vL,vC,vV,vP,vH,h1.grown hg,h2⟩
theorem RAt.lt {bs:Nat→Prop} {W:World} {rb:Nat} {R:yp} (h:RAt bs W rb R):rb<W.heap.size:=by
 obtain⟨vL,vC,vV,vP,vH,h1,h2⟩:=h
 exact h1.lt
theorem RAt.turn {bs cs:Nat→Prop} {W W':World} {rb:Nat} {R:yp} (h:RAt bs W rb R) (ht:∀k,k<W.heap.size→bs k→W'.heap[k]? = W.heap[k]?):RAt bs W' rb R:=by
 obtain⟨vL,vC,vV,vP,vH,h1,h2,h3,h4,h5,h6,h7⟩:=h;refine⟨vL,vC,vV,vP,vH,⟨(ht rb h1.lt h2).trans h1.box,h1.zv0.same fun g hg=>ht g (h1.zv0.lt hg) (h3 g hg),h1.calls.same fun g hg=>ht g (h1.calls.lt hg) (h4 g hg),h1.vals.same fun g hg=>ht g (h1.vals.lt hg) (h5 g hg),h1.zv1.same fun g hg=>ht g (h1.zv1.lt hg) (h6 g hg),h1.holds.same fun g hg=>ht g (h1.holds.lt hg) (h7 g hg)⟩,h2,h3,h4,h5,h6,h7⟩
theorem RAt.mono {bs cs:Nat→Prop} {W:World} {rb:Nat} {R:yp} (h:RAt bs W rb R) (hs:∀k,k<W.heap.size→bs k→cs k):RAt cs W rb R:=by
 obtain⟨vL,vC,vV,vP,vH,h1,h2,h3,h4,h5,h6,h7⟩:=h
 exact⟨vL,vC,vV,vP,vH,h1,hs _ h1.lt h2,fun g hg=>hs g (h1.zv0.lt hg) (h3 g hg),fun g hg=>hs g (h1.calls.lt hg) (h4 g hg),fun g hg=>hs g (h1.vals.lt hg) (h5 g hg),fun g hg=>hs g (h1.zv1.lt hg) (h6 g hg),fun g hg=>hs g (h1.holds.lt hg) (h7 g hg)⟩
def Yu {α:Type} (f:α→Bool) (l:List α):Int:=match l.findIdx? f with
 | some k=>k
 | none=>-1
def Ze {α:Type} (f:α→Bool) (l:List α) (k:Nat):Prop:=∀j,(hj:j<l.length)→j<k→f l[j]=false
section
variable {α : Type} {f : α → Bool} {l : List α} {k : Nat}
theorem Yv:Ze f l 0:=fun j _ h=>by omega
theorem Ze.step (h:Ze f l k) (hk:k<l.length) (hf:f l[k]=false):Ze f l (k+1):=fun j hj h2=>by
 by_cases e:j=k
 ·subst e;exact hf
 ·exact h j hj (by omega)
theorem zgv (h:Ze f l k) (hk:k<l.length) (hf:f l[k]=true):Yu f l=k:=by
 have:l.findIdx? f=some k:=by
  rw[List.findIdx?_eq_some_iff_getElem]
  exact⟨hk,hf,fun j hj=>by simp[h j (by omega) hj]⟩
 unfold Yu;rw[this]
theorem ze7 (h:Ze f l k) (hk:l.length≤k):Yu f l = -1:=by
 have:l.findIdx? f=none:=by
  rw[List.findIdx?_eq_none_iff];intro x hx;obtain⟨j,hj,rfl⟩:=List.getElem_of_mem hx
  exact h j hj (by omega)
 unfold Yu;rw[this]
end
theorem zj (w:World) (n:Nat):w.grownBy (w.drewN n) none:=⟨rfl,rfl,rfl,Nat.le_refl _,fun _ _ _=>rfl⟩
theorem zoj (a b:ID) (w:World):(binOp .eql 59 (.agg #[.string a.key,.int .i64 a.zvz]) (.agg #[.string b.key,.int .i64 b.zvz])).run Tryz.prog w = .ok (.bool (decide (a=b))) w:=by
 obtain⟨a1,a2⟩:=a;obtain⟨b1,b2⟩:=b;simp[go_sem,qb]
 by_cases e1:a1=b1 <;> by_cases e2:a2=b2 <;> simp[e1,e2]
def ug (R:yp) (i:ID):Int:=Yu (fun p=>decide (p.1=i)) R.zv1
section
variable {W : World} {rb : Nat} {R : yp} {vL vC vV vP vH : Value}
set_option maxRecDepth 100000 in
theorem zcz (h:vw W rb R vL vC vV vP vH) (i:ID):Calls Tryz.prog 117 #[.pointer (some ⟨rb,0,none⟩),zx i] W fun e w'=>e = .returned (.int .i64 (ug R i))∧W.grownBy w' none:=by
 unfold ug;have HR:=za (h.grown (zc W (.cells #[.string i.key,.int .i64 i.zvz] 59) none));have HB:=za (heap_alloc_new W (.cells #[.string i.key,.int .i64 i.zvz] 59));have HG:=za (zc W (.cells #[.string i.key,.int .i64 i.zvz] 59) none);clear h;simp only[zx]
 go_enter Tryz.func117,Tryz.ntmps117
 go_wp2;generalize W.alloc (.cells #[.string i.key,.int .i64 i.zvz] 59)=W2 at *
 go_loopw [5] (fun x wr=>∃k:Nat,k≤R.zv1.length∧x = .int .i64 k∧Ze (fun p:ID × xd=>decide (p.1=i)) R.zv1 k∧W2.grownBy wr none) (fun x _=>R.zv1.length-(intOf x).toNat)
 case atStart=>exact⟨0,Nat.zero_le _,rfl,Yv,zd _⟩
 case round=>
  obtain⟨k,hk,rfl,hno,hg2⟩:=hrel;have hR:=HR.out.grown hg2;obtain⟨p,cap,hv,hcap,hlc⟩:=hR.zv1.form;have c7:=hR.c7;rw[hv] at c7;have HNO:=za hno;clear hno
  by_cases hlt:k<R.zv1.length
  ·obtain⟨g,cap',hv',hc,hfz⟩:=(hR.zv1.at zeh).resolve_left (fun e=>by rw[e] at hlt;simp at hlt)
   rw[hv] at hv'
   injection hv' with hv1 hv2 hv3
   subst hv1;have e0:wr.cell? ⟨g,k*4,none⟩=some (.string R.zv1[k].1.key):=hc k hlt 0 _ rfl;have e1:wr.cell? ⟨g,k*4+1,none⟩=some (.int .i64 R.zv1[k].1.zvz):=hc k hlt 1 _ rfl;have b:=(hg2.block W.heap.size (Array.getElem?_eq_some_iff.1 HB.out).1 (by simp)).trans HB.out
   have b0:wr.cell? ⟨W.heap.size,0,none⟩=some (.string i.key):=(zh b 0).trans rfl;have b1:wr.cell? ⟨W.heap.size,1,none⟩=some (.int .i64 i.zvz):=(zh b 1).trans rfl;have HH:=za hR;clear hR hv hv2 hv3 hc hfz b;have heq:=zoj R.zv1[k].1 i
   by_cases hi:R.zv1[k].1=i
   ·have hd:decide (R.zv1[k].1=i)=true:=by simpa using hi
    rw[hd] at heq;have HI:=za (And.intro hi hd);clear hi hd;go_wp2
    go_quiet (fail)
    go_wp2
    go_ret
    exact⟨by rw[zgv HNO.out hlt HI.out.2];rfl,ze HG.out (ze hg2 (zj _ _))⟩
   ·have hd:decide (R.zv1[k].1=i)=false:=by simpa using hi
    rw[hd] at heq;have HI:=za (And.intro hi hd);clear hi hd;go_wp2
    go_quiet (fail)
    go_wp2
    go_roundw
    case rel=>exact⟨k+1,by omega,by go_num,HNO.out.step hlt HI.out.2,ze hg2 (zj _ _)⟩
    case measure=>simp[intOf];omega
  ·have hge:k=R.zv1.length:=by omega
   have HK:=za hge;have HH:=za hR;clear hR hv hge;go_wp2
   go_ret
   exact⟨by rw[ze7 HNO.out (Nat.le_of_eq HK.out.symm)];rfl,ze HG.out hg2⟩
end
end Go.Proofs.YtjfelfjobeeenaaGreat
