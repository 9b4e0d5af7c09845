/- Chapter 20's without: the walk. Conditions: none, or as the theorems say. -/
import Derived.Test.YtbcbhlfjgobejaaGreatI38
import Derived.Test.YtbcbhlfjgobejaaGreatI37
set_option linter.unusedSimpArgs false
set_option linter.unusedVariables false
namespace Go.Proofs.YtbcbhlfjgobejaaGreat
set_option maxHeartbeats 200000000
open Go.RowKit Go.Sf Go.Shelf
attribute [local go_sem] Oper.semAt_some
def woI (l:List ShM) (s:ShM):List ShM:=l.filter fun x=>decide (idS x≠idS s)
theorem idS_eq (x s:ShM):idS x=idS s↔ofB x.key=ofB s.key∧x.znm=s.znm:=by
 unfold idS;simp
theorem woI_no {l:List ShM} {x s:ShM} (h:idS x=idS s):woI (l ++ [x]) s=woI l s:=by
 unfold woI;rw[List.filter_append];simp[h]
theorem woI_yes {l:List ShM} {x s:ShM} (h:¬idS x=idS s):woI (l ++ [x]) s=woI l s ++ [x]:=by
 unfold woI;rw[List.filter_append];simp[h]
theorem Uo (l:List ShM) (s:ShM):(woI l s).length≤l.length:=List.length_filter_le _ _
theorem zhz (X:World) (x:ShM):ze6 (X.alloc (.cells #[.string (ofB x.key),.int .i64 x.znm,.int .i64 x.node,.string (ofB x.row)] 102)) shC (.slice (some ⟨X.heap.size,0,none⟩) 1 1) [x]:=by
 refine⟨_,1,rfl,Or.inr ⟨_,rfl,fun j u hu=>?_⟩⟩
 rw[Xl]
 exact(zh (heap_alloc_new X _) j).trans (by simpa[shC] using hu)
theorem Qi.cells {w:World} {p:Option Addr} {c n:Nat} {l:List ShM} (h:Qi w (.slice p n c) l) {j:Nat} (hj:j<l.length):∃g,p=some ⟨g,0,none⟩∧w.cell? ⟨g,j*4,none⟩=some (.string (ofB l[j].key))∧w.cell? ⟨g,j*4+1,none⟩=some (.int .i64 l[j].znm)∧w.cell? ⟨g,j*4+2,none⟩=some (.int .i64 l[j].node)∧w.cell? ⟨g,j*4+3,none⟩=some (.string (ofB l[j].row)):=by
 rcases uk.at zbb h with e0|⟨g,c,e,hc,_⟩
 ·rw[e0] at hj;simp at hj
 ·injection e with e1
  exact⟨g,e1,hc j hj 0 _ rfl,hc j hj 1 _ rfl,hc j hj 2 _ rfl,hc j hj 3 _ rfl⟩
def WoI (W:World) (l:List ShM) (s:ShM) (v:Value) (w:World):Prop:=∃p c,v = .slice p (woI l s).length c∧Qi w v (woI l s)∧W.grownBy w none∧∀g,v.ownBlock=some g→W.heap.size≤g
theorem WoI.grown {W w w':World} {l:List ShM} {s:ShM} {v:Value} (h:WoI W l s v w) (hg:w.grownBy w' none):WoI W l s v w':=by
 obtain⟨p,c,e,h1,h2,h3⟩:=h
 exact⟨p,c,e,uk.grown h1 hg (by simp),zo h2 hg,h3⟩
theorem WoI.no {W w:World} {l:List ShM} {s x:ShM} {v:Value} (h:WoI W l s v w) (hx:idS x=idS s):WoI W (l ++ [x]) s v w:=by
 unfold WoI;rw[woI_no hx]
 exact h
theorem WoI.app {W w w1 w':World} {l:List ShM} {s x:ShM} {v v':Value} {p:Option Addr} {n c:Nat} (h:WoI W l s v w) (hx:¬idS x=idS s) (hg:w.grownBy w1 none) (hap:zcy w1 102 4 shC v (woI l s ++ [x]) v' w') (he:v' = .slice p n c):WoI W (l ++ [x]) s v' w':=by
 obtain⟨p0,c0,e0,h1,h2,h3⟩:=h;obtain⟨a1,a2,a3⟩:=hap;rw[←woI_yes hx] at a1;obtain⟨p9,c9,e9,-,-⟩:=uk.form a1;refine⟨p9,c9,e9,a1,xi (zo h2 hg) a2 h3,fun g hgv=>?_⟩
 rcases a3 with e|e
 ·exact h3 g (e.symm.trans hgv)
 ·rw[e] at hgv
  injection hgv with hgv
  have:=h2.size;have:=hg.size;omega
section
variable {w : World}
set_option maxRecDepth 100000 in
theorem zcx {l:List ShM} {p:Option Addr} {c:Nat} (hv:Qi w (.slice p l.length c) l) (hl:l.length≤1000) (s:ShM):Calls Tryz.prog 66 #[.slice p l.length c,shA s] w fun e w'=>∃v,e = .returned v∧WoI w l s v w':=by
 obtain⟨i0,ze,by0,hi,hz,hs,hb,hzs,hb2⟩:=zi7;have HC:Hid (∀j (hj:j<l.length),∃g,p=some ⟨g,0,none⟩∧w.cell? ⟨g,j*4,none⟩=some (.string (ofB l[j].key))∧w.cell? ⟨g,j*4+1,none⟩=some (.int .i64 l[j].znm)∧w.cell? ⟨g,j*4+2,none⟩=some (.int .i64 l[j].node)∧w.cell? ⟨g,j*4+3,none⟩=some (.string (ofB l[j].row))):=zd fun j hj=>hv.cells hj
 obtain⟨n,hn⟩:∃n,n=l.length:=⟨_,rfl⟩;have HN:=zd hn;rw[←hn] at hl ⊢;clear hn hv;have HI:Hid (∀x,idS x=idS s↔ofB x.key=ofB s.key∧x.znm=s.znm):=zd fun x=>idS_eq x s
 unfold shA;generalize ofB s.key=sk at *;have HSV:Hid (s.znm=s.znm):=zd rfl;generalize hsv:s.znm=sv at *;clear hsv HSV;generalize ofB s.row=sr at *;generalize s.node=sn at *;have hw1:=zg w (.cells #[.string sk,.int .i64 sv,.int .i64 sn,.string sr] 102) none;have hh1:=heap_alloc_new w (.cells #[.string sk,.int .i64 sv,.int .i64 sn,.string sr] 102);have HW1:=zd hw1;have d0:=(zh hh1 0).trans rfl;have d1:=(zh hh1 1).trans rfl;clear hw1 hh1
 go_enter Tryz.func66,Tryz.ntmps66
 go_upto_region 1 with fail
 generalize w.alloc (.cells #[.string sk,.int .i64 sv,.int .i64 sn,.string sr] 102)=W1 at *;generalize hbx:w.heap.size=xb at *;have HXB:=zd hbx;clear hbx;have d0:W1.cell? ⟨xb,0,none⟩=some (.string sk):=d0;have d1:W1.cell? ⟨xb,1,none⟩=some (.int .i64 sv):=d1;have D:Hid (W1.cell? ⟨xb,0,none⟩=some (.string sk)∧W1.cell? ⟨xb,1,none⟩=some (.int .i64 sv)):=zd ⟨d0,d1⟩;clear d0 d1;go_wp2
 go_loopw [5,6] (fun o i wr=>∃j:Nat,j≤n∧i = .int .i64 j∧WoI W1 (l.take j) s o wr) (fun _ i _=>n-(intOf i).toNat)
 case atStart=>exact⟨0,Nat.zero_le _,rfl,none,0,rfl,zha _,zm _,fun g hg=>by cases hg⟩
 case round=>
  as_aux_lemma=>
  obtain⟨j,hj,rfl,hwo⟩:=hrel;have HWO:=zd hwo;obtain⟨po,co,rfl,-,hg,-⟩:=hwo;have HG:=zd hg
  by_cases hjn:j<n
  ·have hjl:j<l.length:=by rw[←HN.out];exact hjn
   obtain⟨g,rfl,k0,k1,k2,k3⟩:=HC.out j hjl;have hgw:=zo HW1.out hg;replace k0:=hgw.cell k0 (by simp)
   replace k1:=hgw.cell k1 (by simp)
   replace k2:=hgw.cell k2 (by simp)
   replace k3:=hgw.cell k3 (by simp)
   have e0:=hg.cell D.out.1 (by simp)
   have e1:=hg.cell D.out.2 (by simp)
   have hgl:=xg k0;have hxl:=xg e0;have HT:Hid (l.take (j+1)=l.take j ++ [l[j]]):=zd (List.take_succ_eq_append_getElem hjl);have HI2:=zd (HI.out l[j]);have HBS:=zd (zlm (ofB l[j].key) sk);have hj1:j+1≤1000:=by omega
   have h0:(0:Int)≤(j:Int):=by omega
   have hjn2:(j:Int)<(n:Int):=by omega
   have HLW:Hid ((woI (l.take j) s).length≤1000):=zd (by
    have h1:=Uo (l.take j) s;have h2:(l.take j).length≤l.length:=by rw[List.length_take];omega
    have:=HN.out;omega)
   clear hg hgw;generalize l[j]=x at *;obtain⟨xk,hxk⟩:∃k,k=ofB x.key:=⟨_,rfl⟩;obtain⟨xv,hxv⟩:∃k,k=x.znm:=⟨_,rfl⟩;have HXE:Hid (xk=ofB x.key∧xv=x.znm):=zd ⟨hxk,hxv⟩;rw[←hxk] at k0 HI2 HBS;rw[←hxv] at k1 HI2;clear hxk hxv
   go_upto_region 5 with fail
   go_cut [30] (fun o wx=>∃r:Bool,o = .bool r∧(r=true↔¬idS x=idS s)∧wr.grownBy wx none)
   case first=>
    by_cases hq:xk=sk
    ·by_cases hq2:xv=sv
     ·have HX:Hid (idS x=idS s):=zd (HI2.out.2 ⟨hq,hq2⟩)
      subst hq hq2;clear HI2 HBS k2 k3;refine yd (by kernel_rfl) (by kernel_rfl) ?_
      repeat (any_goals (first|go_big_quiet_step (fail)|quiet_step (fail)))
      refine wpQuiet_nil ?_;intro _ hw';obtain⟨xx,hw''⟩:=hw';subst hw'';have HG9:=zd (ul wr xx);generalize ext wr xx=w9 at *
      go_wp2_with fail
      go_meet
      case rel=>exact⟨false,rfl,⟨fun e=>(by cases e),fun e=>absurd HX.out e⟩,HG9.out⟩
     ·have HX:Hid (¬idS x=idS s):=zd fun e=>hq2 (HI2.out.1 e).2
      subst hq;clear HI2 HBS k2 k3;refine yd (by kernel_rfl) (by kernel_rfl) ?_
      repeat (any_goals (first|go_big_quiet_step (fail)|quiet_step (fail)))
      refine wpQuiet_nil ?_;intro _ hw';obtain⟨xx,hw''⟩:=hw';subst hw'';have HG9:=zd (ul wr xx);generalize ext wr xx=w9 at *
      go_wp2_with fail
      go_meet
      case rel=>exact⟨true,by simp[hq2],⟨fun _=>HX.out,fun _=>rfl⟩,HG9.out⟩
    ·have HX:Hid (¬idS x=idS s):=zd fun e=>hq (HI2.out.1 e).1
     have hnt:(xk.toList == sk.toList)=false:=beq_eq_false_iff_ne.2 fun e=>hq (HBS.out.1 e)
     clear HI2 HBS k2 k3;refine yd (by kernel_rfl) (by kernel_rfl) ?_
     repeat (any_goals (first|go_big_quiet_step (fail)|quiet_step (fail)))
     refine wpQuiet_nil ?_;intro _ hw';obtain⟨xx,hw''⟩:=hw';subst hw'';have HG9:=zd (ul wr xx);generalize ext wr xx=w9 at *
     go_wp2_with fail
     go_meet
     case rel=>exact⟨true,rfl,⟨fun _=>HX.out,fun _=>rfl⟩,HG9.out⟩
   case rest=>
    obtain⟨r,rfl,hr,hg9⟩:=hcut;have HG9:=zd hg9;have HW9:=zd (HWO.out.grown hg9)
    cases r with
    | false=>
     have HX:Hid (idS x=idS s):=zd (Classical.byContradiction fun e=>by have:=hr.2 e;cases this)
     clear hr hg9 k0 k1 k2 k3 e0 e1;go_wp2
     exact⟨⟨j+1,by omega,by simp,by rw[HT.out];exact HW9.out.no HX.out⟩,by simp[intOf];omega⟩
    | true=>
     have HX:Hid (¬idS x=idS s):=zd (hr.1 rfl);replace k0:=hg9.cell k0 (by simp)
     replace k1:=hg9.cell k1 (by simp)
     replace k2:=hg9.cell k2 (by simp)
     replace k3:=hg9.cell k3 (by simp)
     rw[HXE.out.1] at k0;rw[HXE.out.2] at k1;clear hr hg9 e0 e1;have hgl9:=xg k0
     go_wp2_with (at_builtin;refine Vx (E:=102) (sz:=4) (enc:=shC) (l:=woI (l.take j) s) (m:=[x]) _ rfl _ _ 95 rfl zbb zeu i0 ze by0 Tryz.underlying95 hi hz hs hb hzs (by decide) hb2 rfl (uk.grown (by obtain⟨_,_,_,h1,_⟩:=HW9.out;exact h1) (zg _ _ none) (by simp)) rfl (zhz _ x) (by have:=HLW.out;simp only[List.length_cons,List.length_nil];omega) ((woI (l.take j) s).length+1) (by simp only[List.length_cons,List.length_nil]) ?_;intro p' cap' w10 hap;have HW10:=zd (HW9.out.app HX.out (zg _ _ none) hap rfl);clear hap)
     exact⟨⟨j+1,by omega,by simp,by rw[HT.out];exact HW10.out⟩,by simp[intOf];omega⟩
  ·have HL:Hid (l.take j=l):=zd (List.take_of_length_le (by rw[←HN.out];omega))
   have hjn2:¬(j:Int)<(n:Int):=by omega
   clear hg;go_wp2
   go_ret
   refine⟨_,rfl,?_⟩;have h5:=HWO.out;rw[HL.out] at h5 ⊢;obtain⟨p9,c9,a1,a2,a3,a4⟩:=h5
   exact⟨p9,c9,a1,a2,zo HW1.out a3,fun g hg=>Nat.le_trans HW1.out.size (a4 g hg)⟩
end
structure VO (own2:Nat→Prop) (B:Nat) (w:World) (vb st db mb:Nat) (v:Value) (old:List Int) (V:Vlt):Prop where
 va:∃km vk,VAt (fun k=>own2 k∨v.ownBlock=some k) w vb st db mb km vk V
 row:uk w 2 1 lgE v old
 ge:∀g,v.ownBlock=some g→B≤g
section
variable {own2 : Nat → Prop} {B : Nat} {w w1 w' : World} {vb st db mb : Nat} {v v' : Value} {old : List Int} {V V' : Vlt} {x : Int}
theorem VO.grown (h:VO own2 B w vb st db mb v old V) (hg:w.grownBy w' none):VO own2 B w' vb st db mb v old V:=by
 obtain⟨⟨km,vk,h1⟩,h2,h3⟩:=h
 exact⟨⟨km,vk,h1.grown hg⟩,h2.grown hg (by simp),h3⟩
theorem VO.turn (h:VO own2 B w vb st db mb v old V) (ha:∃km vk,VAt (fun k=>own2 k∨v.ownBlock=some k) w' vb st db mb km vk V') (ht:zq (fun k=>¬(own2 k∨v.ownBlock=some k)) w w'):VO own2 B w' vb st db mb v old V':=
 ⟨ha,h.row.same fun g hg=>ht.block g (h.row.lt hg) fun e=>e (Or.inr hg),h.ge⟩
theorem VO.app (h:VO own2 B w vb st db mb v old V) (hlt:∀k,own2 k→v.ownBlock≠some k) (hB:B≤w.heap.size) (hg:w.grownBy w1 none) {l:List Int} (hap:zcy w1 2 1 lgE v l v' w'):VO own2 B w' vb st db mb v' l V∧zq (fun k=>¬own2 k) w w':=by
 obtain⟨⟨km,vk,h1⟩,h2,h3⟩:=h;obtain⟨a1,a2,a3⟩:=hap;have hz:=hg.size;refine⟨⟨⟨km,vk,?_⟩,a1,fun g hgv=>?_⟩,?_⟩
 ·refine(h1.grown hg).oth ⟨a2.os,a2.tape,a2.output,a2.size,fun k hk hn=>a2.block k hk fun e=>hn (Or.inr e.symm)⟩ (fun k hk=>?_) (fun k hk=>?_)
  ·rcases hk with e|e
   ·exact Or.inl (Or.inl e)
   ·rcases a3 with e2|e2
    ·exact Or.inl (Or.inr (e2.symm.trans e))
    ·rw[e2] at e;injection e with e;exact Or.inr (by omega)
  ·rcases hk with e|e
   ·exact Nat.lt_of_lt_of_le ((h1.grown hg).olt (Or.inl e)) a2.size
   ·exact a1.lt e
 ·rcases a3 with e2|e2
  ·exact h3 g (e2.symm.trans hgv)
  ·rw[e2] at hgv;injection hgv with e;omega
 ·refine⟨a2.os.trans hg.os,a2.tape.trans hg.tape,a2.output.trans hg.output,Nat.le_trans hz a2.size,fun k hk hn=>?_⟩
  have ho:own2 k:=Classical.byContradiction hn
  exact(a2.block k (by omega) fun e=>hlt k ho e.symm).trans (hg.block k hk (by simp))
theorem VO.off (h:VO own2 B w vb st db mb v old V) (hlt:∀k,own2 k→k<B):∀k,own2 k→v.ownBlock≠some k:=fun k hk e=>by
 have:=h.ge k e;have:=hlt k hk;omega
theorem VO.sort (h:VO own2 B w vb st db mb v old V) (hlt:∀k,own2 k→k<B) {l:List Int} (hr:uk w' 2 1 lgE v l) (a2:w.grownBy w' v.ownBlock):VO own2 B w' vb st db mb v l V∧zq (fun k=>¬own2 k) w w':=by
 obtain⟨⟨km,vk,h1⟩,h2,h3⟩:=h;refine⟨⟨⟨km,vk,?_⟩,hr,h3⟩,?_⟩
 ·exact h1.oth ⟨a2.os,a2.tape,a2.output,a2.size,fun k hk hn=>a2.block k hk fun e=>hn (Or.inr e.symm)⟩ (fun k hk=>Or.inl hk) (fun k hk=>hk.elim (fun e=>Nat.lt_of_lt_of_le (h1.olt (Or.inl e)) a2.size) fun e=>hr.lt e)
 ·refine⟨a2.os,a2.tape,a2.output,a2.size,fun k hk hn=>?_⟩
  have ho:own2 k:=Classical.byContradiction hn;refine a2.block k hk fun e=>?_
  have:=h3 k e.symm;have:=hlt k ho;omega
theorem VO.znn (h:VO own2 B w vb st db mb v old V) (n k:Int):VO own2 B ((w.setCell ⟨vb,1,none⟩ (.int .i64 n)).setCell ⟨vb,2,none⟩ (.int .i64 k)) vb st db mb v old (V.znn n k)∧zq (fun k=>¬own2 k) w ((w.setCell ⟨vb,1,none⟩ (.int .i64 n)).setCell ⟨vb,2,none⟩ (.int .i64 k)):=by
 obtain⟨km,vk,h1⟩:=h.va;obtain⟨h2,h3⟩:=h1.znn n k
 exact⟨h.turn ⟨km,vk,h2⟩ h3,h3.mono fun k hk e=>hk (Or.inl e)⟩
theorem VO.more (h:VO own2 B w vb st db mb v old V) (hg:w.grownBy w1 none) {Q:Nat→Prop} (hQ:∀k,Q k→w.heap.size≤k∧k<w1.heap.size):VO (fun k=>own2 k∨Q k) B w1 vb st db mb v old V:=by
 obtain⟨⟨km,vk,h1⟩,h2,h3⟩:=h;refine⟨⟨km,vk,h1.oth (ue hg) (fun k hk=>?_) (fun k hk=>?_)⟩,h2.grown hg (by simp),h3⟩
 ·rcases hk with (e|e)|e
  ·exact Or.inl (Or.inl e)
  ·exact Or.inr (hQ k e).1
  ·exact Or.inl (Or.inr e)
 ·rcases hk with (e|e)|e
  ·exact Nat.lt_of_lt_of_le (h1.olt (Or.inl e)) hg.size
  ·exact(hQ k e).2
  ·exact Nat.lt_of_lt_of_le (h1.olt (Or.inr e)) hg.size
theorem VO.keep {Q:Nat→Prop} (h:VO (fun k=>own2 k∨Q k) B w vb st db mb v old V) (hd:∀k,Q k→¬own2 k∧v.ownBlock≠some k) {i:VID} {x:KpM} (hx:Jl Q w x) (hQ:∀k,Q k→k≠vb∧k≠mb) {km:List (VID × KpM)} {vk:Nat→Prop} (ha:VAt (fun k=>(own2 k∨Q k)∨v.ownBlock=some k) w vb st db mb km vk V) (hm:yg w' mb yu uw (yj km i x)) (hg:w.grownBy w' (some mb)) (hz:w'.heap.size=w.heap.size):VO own2 B w' vb st db mb v old (V.keep i x.s x.k)∧zq (fun k=>¬own2 k) w w':=by
 have hml:=ha.vlt ha.vmb;have hvl:=ha.vlt ha.vvb;have hb:∀k,k<w.heap.size→k≠mb→w'.heap[k]? = w.heap[k]?:=fun k hk e=>hg.block k hk fun e2=>e (Option.some.inj e2)
 have ho:∀k,own2 k→k<w.heap.size∧k≠mb:=fun k hk=>⟨ha.olt (Or.inl (Or.inl hk)),fun e=>ha.ap k (Or.inl (Or.inl hk)) (by rw[e];exact ha.vmb)⟩
 have hv:∀k,v.ownBlock=some k→k<w.heap.size∧k≠mb:=fun k hk=>⟨ha.olt (Or.inr hk),fun e=>ha.ap k (Or.inr hk) (by rw[e];exact ha.vmb)⟩
 have ht:zq (fun k=>(own2 k∨Q k)∨v.ownBlock=some k∨vk k) w w':=⟨hg.os,hg.tape,hg.output,hg.size,fun k hk hn=>hb k hk fun e=>hn (Or.inr (Or.inr (by rw[e];exact ha.vmb)))⟩
 refine⟨⟨⟨yj km i x,fun k=>vk k∨Q k,?_⟩,h.row.same fun g hgv=>hb g (hv g hgv).1 (hv g hgv).2,h.ge⟩,⟨hg.os,hg.tape,hg.output,hg.size,fun k hk hn=>hb k hk (ho k (Classical.byContradiction hn)).2⟩⟩
 refine⟨(hb vb hvl ha.ne).trans ha.box,?_,hm,fun p hp=>?_,?_,Or.inl ha.vvb,Or.inl ha.vmb,fun k hk e=>?_⟩
 ·refine ha.sr.othJ (ht.mono fun k hk=>?_) (fun k hk=>?_) (fun k hk=>?_)
  ·rcases hk with e|e|e
   ·exact Or.inl (Or.inl e)
   ·exact Or.inl (Or.inr e)
   ·exact Or.inr e
  ·rcases hk with (e|e)|e|e
   ·exact Or.inl (Or.inl (Or.inl (Or.inl e)))
   ·exact Or.inl (Or.inl (Or.inr e))
   ·exact Or.inl (Or.inr e)
   ·exact Or.inl (Or.inl (Or.inl (Or.inr e)))
  ·rw[hz]
   rcases hk with (e|e)|e|e
   ·exact(ho k e).1
   ·exact(hv k e).1
   ·exact ha.vlt e
   ·exact ha.olt (Or.inl (Or.inr e))
 ·rcases Jy hp with e|e
  ·exact((ha.rows p e).turn fun k hk=>hb k (ha.vlt hk.1) hk.2.2).mono fun k hk=>⟨Or.inl hk.1,hk.2⟩
  ·rw[e]
   exact(hx.turn fun k hk=>hb k (ha.olt (Or.inl (Or.inr hk))) (hQ k hk).2).mono fun k hk=>⟨Or.inr hk,hQ k hk⟩
 ·show yj V.sh i (x.s,x.k)=_
  rw[ha.she]
  exact zdl (fun p=>(p.1,(p.2.s,p.2.k))) (fun _=>rfl) km i x
 ·rcases hk with e2|e2
  ·rcases e with e|e
   ·exact ha.ap k (Or.inl (Or.inl e2)) e
   ·exact(hd k e).1 e2
  ·rcases e with e|e
   ·exact ha.ap k (Or.inr e2) e
   ·exact(hd k e).2 e2
theorem VO.cells (h:VO own2 B w vb st db mb v old V):w.cell? ⟨vb,0,none⟩=some (.pointer (some ⟨st,0,none⟩))∧w.cell? ⟨vb,1,none⟩=some (.int .i64 V.life)∧w.cell? ⟨vb,2,none⟩=some (.int .i64 V.at_)∧w.cell? ⟨vb,3,none⟩=some (.map (some mb))∧w.cell? ⟨vb,4,none⟩=some (.int .i64 V.broken)∧∀i,w.frozen? ⟨vb,i,none⟩=false:=by
 obtain⟨km,vk,h1⟩:=h.va
 exact h1.cells
theorem VO.srep (h:VO own2 B w vb st db mb v old V):Zc own2 w st db V.S:=by
 obtain⟨km,vk,h1⟩:=h.va
 exact h1.sr.lessJ fun k hk=>Or.inl (Or.inl hk)
end
def VOpenP (own:Nat→Prop) (W:World) (db:Nat) (d:Dk) (e:Ending) (w':World):Prop:=
 zq (fun k=>¬own k) W w'∧((d.opened.2≠0∧e = .returned (.tuple #[.pointer none,.int .i64 d.opened.2])∧vl own w' db d.opened.1)∨
  (d.opened.2=0∧∃st ks,Yg d ks∧
   ((vfold (openS d ks) (openS d ks).keys (Vlt.new (openS d ks)) []=none∧e = .returned (.tuple #[.pointer none,.int .i64 190])∧Zc own w' st db (openS d ks))∨
   ∃V o,vfold (openS d ks) (openS d ks).keys (Vlt.new (openS d ks)) []=some (V,o)∧
    (((ja V.S (srt o)).2≠0∧e = .returned (.tuple #[.pointer none,.int .i64 (ja V.S (srt o)).2])∧Zc own w' st db (ja V.S (srt o)).1)∨
    ((ja V.S (srt o)).2=0∧∃vb mb km vk,e = .returned (.tuple #[.pointer (some ⟨vb,0,none⟩),.int .i64 0])∧VAt own w' vb st db mb km vk { V with S:=(ja V.S (srt o)).1 })))))
def VOI (own2:Nat→Prop) (X:World) (vb st db mb:Nat) (S:Sto) (j:Nat) (v:Value) (w:World):Prop:=
 ∃p n c o V,v = .slice p n c∧VO own2 X.heap.size w vb st db mb v o V∧V.S=S∧n=o.length∧o.length≤j∧vfold S (S.keys.drop j) V o=vfold S S.keys (Vlt.new S) []∧zq (fun k=>¬own2 k) X w
end Go.Proofs.YtbcbhlfjgobejaaGreat
