/- gone: a record that is removed stays so: what the disk holds, step by step. Conditions: none, or as the theorems say. -/
import Derived.Test.YtbcbhlfjgobejaaGreatS29
import Derived.KernelRfl
import Derived.Test.YtbcbhlfjgobejaaGreatS27
import Derived.Test.YtbcbhlfjgobejaaGreatS26
set_option linter.unusedSimpArgs false
set_option linter.unusedVariables false
namespace Go.Proofs.YtbcbhlfjgobejaaGreat
set_option maxHeartbeats 200000000
open Go.Sf
variable {a:Act} {ops:Array Oper} {Q:Exit→Act→World→Prop} {b:List Int} {base j k:Nat} {P:Program} {v:Value} {w:World}
def Jb:List Int:=[114,101,109,111,118,101,100]
def zcq:List Int:=[97,110,111,116,104,101,114]
def Jl (b:List Int):List Int:=xe zo ⟨1,0,1,b⟩
theorem may1 (h1:1≤b.length) (h:b.length≤230):Up ⟨1,0,1,b⟩:=⟨by show(1:Int)≤1;decide,by show(1:Int)≤_;decide,by show 1≤1;decide,by show 1≤570;decide,by show 0<1;decide,h,λe=>absurd rfl e,λ_=>⟨by show 0*230+b.length≤_;omega,by show zk (0*230+b.length)=1;unfold zk;omega⟩⟩
def G1:Sto:=⟨⟨1,[(0,Jl Jb)],[(0,Jl Jb)],[],2,-1,false⟩,[(1,(Jb,[0]))],[true],2,0⟩
theorem g1_put:(S0 1).put Jb=(G1,1,0):=by
 kernel_rfl
theorem g2_rem:({ G1 with d:=G1.d.failed 0 }:Sto).rem 1=(⟨⟨1,[(0,Jl Jb)],[(0,vf [])],[(0,vf [])],3,-1,true⟩,[(1,(Jb,[0]))],[true],2,180⟩,180):=by
 kernel_rfl
def D3 (k:Int):Dk:=⟨1,[(0,vq (um [k] 0) (vf []) (Jl Jb))],[(0,vq (um [k] 0) (vf []) (Jl Jb))],[],3,-1,false⟩
theorem g3_on (k:Int):(⟨1,[(0,Jl Jb)],[(0,vf [])],[(0,vf [])],3,-1,true⟩:Dk).on [k]=D3 k:=by
 rfl
theorem steady3 (k:Int):xd (D3 k):=⟨rfl,rfl⟩
theorem zi1 {d:Dk} {ks:List zt} (h:(scanN zo (bk d.now) d.n).rows = []) (hk:jc d ks):ks = []:=by
 cases ks with
 | nil=>rfl
 | cons K t=>
  obtain⟨r,hr⟩:=(hk.1 K).1 (by simp)
  rw[h] at hr;simp[zw] at hr
theorem zoz:∃K r,scanN zo (bk (D3 0).now) 1=⟨[(K,r)],2⟩∧K.k=1∧r.whole=true:=by
 have hs:saidP zo (bk (D3 0).now 0)=some ⟨1,0,1,Jb⟩:=by
  have:bk (D3 0).now 0=xe zo ⟨1,0,1,Jb⟩:=by
   show vq (um [0] 0) (vf []) (Jl Jb)=_
   exact zie _ _
  rw[this]
  exact Xo (may1 (by decide) (by decide))
 refine⟨⟨1,1⟩,ja (uc 1) 0 (0,Jb),?_,rfl,?_⟩
 ·show scanStep zo (scanN zo (bk (D3 0).now) 0) 0 (bk (D3 0).now 0)=_
  unfold scanStep;rw[hs]
  rfl
 ·rfl
theorem g4_recs {ks:List zt} (hk:jc (D3 0) ks):∃x,(openS (D3 0) ks).recs = [(1,x)]:=by
 obtain⟨K,r,h1,h2,h3⟩:=zoz;obtain⟨h4,h5⟩:=hk;have e:(scanN zo (bk (D3 0).now) (D3 0).n)=⟨[(K,r)],2⟩:=h1;have hm:∀K',K'∈ks↔K'=K:=λK'=>by
  rw[h4,e];unfold zw
  by_cases hh:K=K'
  ·simp[hh]
  ·simp[hh,zw,eq_comm]
 obtain⟨t,ht⟩:∃t,ks=K :: t:=by
  cases ks with
  | nil=>have:=(hm K).2 rfl;simp at this
  | cons a t=>rw[(hm a).1 (by simp)];exact⟨t,rfl⟩
 subst ht;have:t = []:=by
  cases t with
  | nil=>rfl
  | cons a u=>
   have:=(hm a).1 (by simp)
   subst this;rw[List.pairwise_cons] at h5;have:=h5.1 a (by simp)
   unfold Yl at this;omega
 subst this;refine⟨(vp r,xo r),?_⟩;unfold openS;rw[Yy,e];simp[Xm,zw,h2,h3]
 rfl
theorem zof (h1:1≤k) (h8:k<8):k=1∨k=2∨k=3∨k=4∨k=5∨k=6∨k=7:=by omega
theorem zl9 (h1:1≤k) (h8:k<8):(bk (D3 k).now 0).head? = some 0∧(bk (D3 k).now 0)[12]? = some 1:=by
 rcases zof h1 h8 with rfl|rfl|rfl|rfl|rfl|rfl|rfl <;> exact⟨by kernel_rfl,by kernel_rfl⟩
theorem zma (h1:1≤k) (h8:k<8):saidP zo (bk (D3 k).now 0)=none:=qn (by rw[(zl9 h1 h8).1];decide)
theorem x3_ne (h1:1≤k) (h8:k<8):bk (D3 k).now 0≠zr:=λe=>by
 have h:=(zl9 h1 h8).2;rw[e] at h
 exact absurd h (by decide)
def S3:Sto:=⟨⟨1,[(0,zr)],[(0,zr)],[],5,-1,false⟩,[],[false],1,0⟩
theorem g5_open (h1:1≤k) (h8:k<8) {ks:List zt} (hk:jc (D3 k) ks):openS (D3 k) ks=S3:=by
 have hs:scanN zo (bk (D3 k).now) (D3 k).n=⟨[],1⟩:=by
  show scanN zo (bk (D3 k).now) (0+1)=_
  rw[Vs (zma h1 h8)]
  rfl
 have h0:=zi1 (by rw[hs]) hk
 subst h0;have ho:opnD (D3 k) (D3 k).n=((D3 k).written 0 [],(D3 k).writeV 0 [],true):=by
  show opnD (D3 k) (0+1)=_
  unfold opnD;rw[if_neg (by unfold opnD;simp),if_neg (by rw[zma h1 h8];simp;exact x3_ne h1 h8)]
  rfl
 unfold openS Dk.opened;rw[ho,hs]
 rfl
theorem g6_put:({ S3 with d:=S3.d.failed 0 }:Sto).put zcq=(⟨⟨1,[(0,zr)],[(0,Jl zcq)],[(0,Jl zcq)],6,-1,true⟩,[],[false],1,180⟩,0,180):=by
 kernel_rfl
def D6 (j:Int):Dk:=⟨1,[(0,vq (um [j] 0) (Jl zcq) zr)],[(0,vq (um [j] 0) (Jl zcq) zr)],[],6,-1,false⟩
theorem g7_on (j:Int):(⟨1,[(0,zr)],[(0,Jl zcq)],[(0,Jl zcq)],6,-1,true⟩:Dk).on [j]=D6 j:=by
 rfl
theorem steady6 (k:Int):xd (D6 k):=⟨rfl,rfl⟩
theorem x6_tail (h8:j<8):(bk (D6 j).now 0).drop 248=List.replicate 8 0:=by
 rcases Nat.eq_zero_or_pos j with rfl|h1
 ·kernel_rfl
 ·rcases zof h1 h8 with rfl|rfl|rfl|rfl|rfl|rfl|rfl <;> kernel_rfl
theorem x6_none (h8:j<8):saidP zo (bk (D6 j).now 0)=none:=by
 cases e:saidP zo (bk (D6 j).now 0) with
 | none=>rfl
 | some p=>
  obtain⟨hm,h2⟩:=yr e;have ht:=(jz (C:=zo) hm.l1).tl;rw[h2,x6_tail h8] at ht;have hn:=Qd 8 p.k.toNat (by have:=hm.k2;omega)
  rw[←ht] at hn;have h0:num (List.replicate 8 (0:Int))=0:=by decide
  rw[h0] at hn;have:=hm.k1;omega
theorem zgs (h8:j<8) {ks:List zt} (hk:jc (D6 j) ks):(openS (D6 j) ks).recs = []:=by
 have hs:scanN zo (bk (D6 j).now) (D6 j).n=⟨[],1⟩:=by
  show scanN zo (bk (D6 j).now) (0+1)=_
  rw[Vs (x6_none h8)]
  rfl
 have h0:=zi1 (by rw[hs]) hk
 subst h0;unfold openS;rw[hs]
 rfl
open Go.RowKit Go.Sf
theorem num_nil {e:TypeId} {xs:List Value} (h:w.ownsRow base e 1 v 0 xs):∃p c,v = .slice p 0 c:=by
 rcases h.2 with ⟨rfl,h0⟩|⟨g,c,cur,rfl,_⟩
 ·exact⟨none,0,rfl⟩
 ·exact⟨_,_,rfl⟩
theorem zlp {W:World} {k:Int} (h:w.ownsRow base 2 1 v 1 (([k].mergeSort λx y=>decide (x≤y)).map (Value.int .i64))):∃g c,v = .slice (some ⟨g,0,none⟩) 1 c∧g<w.heap.size∧w.cell? ⟨g,0,none⟩=some (.int .i64 k):=by
 rcases h.2 with ⟨_,h0⟩|⟨g,c,cur,rfl,hg,hh,h1,h2,h3,h4⟩
 ·omega
 ·refine⟨g,c,rfl,?_,?_⟩
  ·rcases Nat.lt_or_ge g w.heap.size with h|h
   ·exact h
   ·rw[Array.getElem?_eq_none h] at hh;cases hh
  ·refine(zf hh 0).trans ?_
   rw[List.mergeSort_singleton] at h4;have:=congrArg (λl:List Value=>l[0]?) h4
   simp only[List.getElem?_take] at this;simpa using this
set_option maxRecDepth 100000 in
theorem zk9 (va vb:Value) (la lb:List Int) (cut:Nat) (hcut:cut<256) (W:World) (ha:zx W va la) (hb:zx W vb lb) (hla:BL la) (hlb:BL lb) (h1:la.length≤230) (h2:lb.length≤230):Calls Tryz.prog 4 #[va,vb,.int .u8 (cut:Int)] W λe w'=>e = .returned (.bool true)∧W.grownBy w' none:=by
 have HA:=zd ha;have HB:=zd hb;have HL:Hid (la.length≤230∧lb.length≤230∧BL la∧BL lb∧cut<256):=(show _∧_ from ⟨h1,h2,hla,hlb,hcut⟩)
 have hca:=uh ha;have HBA:Hid (∀w:World,Calls Tryz.prog 23 #[.int .i64 7,.int .i64 0,.int .i64 1,.string (ofB la)] w λe w'=>e = .returned (.string (ofB (xe zo ⟨7,0,1,la⟩)))∧w.grownBy w' none):=(show ∀w:World,Calls _ _ _ _ _ from λw=>by
  have:=Xn 7 0 1 (ofB la) (by omega) (by omega) (by omega) (by rw[yu];exact h1) w
  rw[qy hla] at this
  exact this)
 have HBB:Hid (∀w:World,Calls Tryz.prog 23 #[.int .i64 8,.int .i64 0,.int .i64 1,.string (ofB lb)] w λe w'=>e = .returned (.string (ofB (xe zo ⟨8,0,1,lb⟩)))∧w.grownBy w' none):=(show ∀w:World,Calls _ _ _ _ _ from λw=>by
  have:=Xn 8 0 1 (ofB lb) (by omega) (by omega) (by omega) (by rw[yu];exact h2) w
  rw[qy hlb] at this
  exact this)
 obtain⟨pa,ca,rfl,-⟩:=ha.ex;obtain⟨pb,cb,rfl,-⟩:=hb.ex;obtain⟨OL,hOL⟩:∃x,x=xe zo ⟨7,0,1,la⟩:=⟨_,rfl⟩;obtain⟨NL,hNL⟩:∃x,x=xe zo ⟨8,0,1,lb⟩:=⟨_,rfl⟩;rw[←hOL] at HBA;rw[←hNL] at HBB;have hzo:(ofB OL).size=256:=by rw[yu,hOL];exact js h1
 have hzn:(ofB NL).size=256:=by rw[yu,hNL];exact js h2
 have HO:=zd hOL;have HN:=zd hNL;clear hOL hNL ha hb hla hlb;have HW:=zd Ya
 go_enter Tryz.func4,Tryz.ntmps4
 go_upto_region 4 with (go_at_call 23;refine(HBA.out _).mono ?_;rintro e w1 ⟨rfl,hg⟩;have HG1:=zd hg;clear hg)
 have hcb:=uh (HB.out.grown HG1.out (by simp))
 clear hca
 go_upto_region 6 with (first
  | (go_at_call 23;refine(HBB.out _).mono ?_;rintro e w2 ⟨rfl,hg⟩;have HG2:=zd (zh HG1.out hg);clear hg;have HDN:=zd (dnew 1 w2))
  | (go_at_call 19;refine HDN.out.mono ?_;rintro e w3 ⟨db,rfl,hg3,-,hd3⟩;have HG3:=zd (zh HG2.out hg3);have HD:=zd (hd3 (λk=>k<W.heap.size) (λk hk=>Nat.lt_of_lt_of_le hk HG2.out.size));clear hg3 hd3 HDN HG2))
 clear hcb;have hc1:(cut:Int)≤256:=by omega
 refine ya (by kernel_rfl) (by kernel_rfl) ?_
 repeat (any_goals (first|go_big_quiet_step (fail)|quiet_step (fail)))
 refine wpQuiet_nil ?_;intro _ hw';obtain⟨x,hw''⟩:=hw';subst hw'';have HG4:=zd (vu HG3.out x);have HD4:=zd (HD.out.kept (ux w3 x));clear HG3 HD;generalize ext w3 x=w4 at *;have hmx:(ofB NL).extract 0 cut++(ofB OL).extract cut 256=ofB (vq cut NL OL):=zlo cut (by rw[yu] at hzo;exact hzo)
 have HML:Hid (BL (vq cut NL OL)∧(vq cut NL OL).length=256):=(show _∧_ from ⟨mix_BL cut (by rw[HN.out];exact Qn HL.out.2.2.2.1) (by rw[HO.out];exact Qn HL.out.2.2.1),by
  rw[yu] at hzo hzn;rw[zln (by omega),hzo]⟩)
 rw[hmx];clear hmx;obtain⟨D1,D2,HTD⟩:=tnd HML.out.2;obtain⟨y,w5,hcv,hg5,hy⟩:=Uy w4 (ofB (vq cut NL OL));rw[qy HML.out.1] at hy;have HG5:=zd (zh HG4.out hg5);have HWR:=zd (dwrite (HD4.out.kept hg5) 0 hy HML.out.1 (by decide))
 rw[HTD.w.1,HTD.w.2] at HWR;have HT:=zd HTD;clear HTD hg5 hy HD4 HG4
 go_upto_region 12 with (first
  | rw[hcv]
  | (go_at_call 24;refine HWR.out.mono ?_;rintro e w6 ⟨rfl,hd6,ht6⟩;have HG6:=zd (xa HG5.out (λk hk=>hk) ht6);have HSY:=zd (dsync hd6);rw[HT.out.y.1,HT.out.y.2] at HSY;clear hd6 ht6)
  | (go_at_call 25;refine HSY.out.mono ?_;rintro e w7 ⟨rfl,hd7,ht7⟩;have HG7:=zd (xa HG6.out (λk hk=>hk) ht7);have HOP:=zd (zik HG7.out hd7 HT.out.st (by rw[HT.out.lt,HT.out.n];decide));clear hd7 ht7)
  | (go_at_call 18;refine HOP.out.mono ?_;rintro e w8 ⟨st,ks,rfl,hks,hst⟩;have HK:=zd hks;have HS:=zd hst;clear hks hst HOP))
 have hcase:=zn4 HT.out.n HL.out.1 HL.out.2.1 cut (by rw[HT.out.bk,HO.out,HN.out]) HK.out
 rw[←HN.out,←HO.out] at hcase;have HG8:=zd HS.out.gr;generalize openS D2 ks=S at *;clear HK HT HG7 HG6 HG5 HBA HBB hcv
 rcases hcase with hr|⟨bl,hr⟩|⟨bl,hr,hmn⟩
 ·have HNU:=zd (HS.out.numbers (by rw[hr];simp) (by rw[hr];simp))
  rw[hr] at HNU
  go_upto_region 13 with (go_at_call 26;refine HNU.out.mono ?_;rintro e w9 ⟨hg,v,rfl,hv⟩;have HG9:=zd (zh HG8.out hg);obtain⟨p,c,rfl⟩:=num_nil hv;clear hg hv)
  go_wp2
  go_loopw [14] (λi wr=>w9=wr∧i = .int .i64 0) (λi _=>0)
  case atStart=>exact⟨rfl,rfl⟩
  case round=>
   obtain⟨rfl,rfl⟩:=hrel
   go_wp2_with (go_at_call 17;refine(HW.out _).mono ?_;rintro e w10 ⟨rfl,hg⟩;have HG10:=zd hg;clear hg)
   go_ret
   exact⟨rfl,zh HG9.out HG10.out⟩
 ·have HNU:=zd (HS.out.numbers (by rw[hr];simp) (by rw[hr];simp))
  rw[hr] at HNU;have HGE:=zd (λ(w:World) (hg:w8.grownBy w none)=>zgu (HS.out.grown hg) (k:=7) (b:=la) (bl:=bl) (by rw[hr];rfl))
  go_upto_region 13 with (go_at_call 26;refine HNU.out.mono ?_;rintro e w9 ⟨hg,v,rfl,hv⟩;have HG9:=zd hg;obtain⟨g,c,rfl,hgl,hgc⟩:=zlp (W:=w9) hv;have HGC:=zd hgc;have HGL:=zd hgl;clear hg hv hgc hgl HNU)
  go_wp2
  go_loopw [14] (λi wr=>w9.grownBy wr none∧(i = .int .i64 0∨i = .int .i64 1)) (λi _=>1-(intOf i).toNat)
  case atStart=>exact⟨zi _,Or.inl rfl⟩
  case round=>
   obtain⟨hg,rfl|rfl⟩:=hrel
   ·have hcell:wr.cell? ⟨g,0,none⟩=some (.int .i64 7):=hg.cell HGC.out (by simp)
    have HGR:=zd hg;have HGT:=zd (HGE.out wr (zh HG9.out hg));clear hg
    go_upto_region 17 with (go_at_call 21;refine HGT.out.mono ?_;rintro e w10 ⟨hg,p10,c10,rfl,hnr⟩;have HR10:=zd hg;have HG10:=zd (zh HGR.out hg);have hc10:=uh (vw hnr);have hcell10:w10.cell? ⟨g,0,none⟩=some (.int .i64 7):=hg.cell hcell (by simp);clear hg hnr HGT)
    have hcva:=uh ((HA.out.grown HG8.out (by simp)).grown (zh HG9.out HG10.out) (by simp))
    have hcvb:=uh ((HB.out.grown HG8.out (by simp)).grown (zh HG9.out HG10.out) (by simp))
    have hself:∀z:ByteArray,(z.toList == z.toList)=true:=λz=>by simp
    clear hcell;go_wp2
    exact⟨⟨HG10.out,Or.inr rfl⟩,by simp[intOf]⟩
   ·have HGR:=zd hg
    clear hg
    go_wp2_with (go_at_call 17;refine(HW.out _).mono ?_;rintro e w10 ⟨rfl,hg⟩;have HG10:=zd hg;clear hg)
    go_ret
    exact⟨rfl,zh HG8.out (zh HG9.out (zh HGR.out HG10.out))⟩
 ·have HNU:=zd (HS.out.numbers (by rw[hr];simp) (by rw[hr];simp))
  rw[hr] at HNU;have HGE:=zd (λ(w:World) (hg:w8.grownBy w none)=>zgu (HS.out.grown hg) (k:=8) (b:=lb) (bl:=bl) (by rw[hr];rfl))
  rw[hmn]
  go_upto_region 13 with (go_at_call 26;refine HNU.out.mono ?_;rintro e w9 ⟨hg,v,rfl,hv⟩;have HG9:=zd hg;obtain⟨g,c,rfl,hgl,hgc⟩:=zlp (W:=w9) hv;have HGC:=zd hgc;have HGL:=zd hgl;clear hg hv hgc hgl HNU)
  go_wp2
  go_loopw [14] (λi wr=>w9.grownBy wr none∧(i = .int .i64 0∨i = .int .i64 1)) (λi _=>1-(intOf i).toNat)
  case atStart=>exact⟨zi _,Or.inl rfl⟩
  case round=>
   obtain⟨hg,rfl|rfl⟩:=hrel
   ·have hcell:wr.cell? ⟨g,0,none⟩=some (.int .i64 8):=hg.cell HGC.out (by simp)
    have HGR:=zd hg;have HGT:=zd (HGE.out wr (zh HG9.out hg));clear hg
    go_upto_region 17 with (go_at_call 21;refine HGT.out.mono ?_;rintro e w10 ⟨hg,p10,c10,rfl,hnr⟩;have HR10:=zd hg;have HG10:=zd (zh HGR.out hg);have hc10:=uh (vw hnr);have hcell10:w10.cell? ⟨g,0,none⟩=some (.int .i64 8):=hg.cell hcell (by simp);clear hg hnr HGT)
    have hcva:=uh ((HA.out.grown HG8.out (by simp)).grown (zh HG9.out HG10.out) (by simp))
    have hcvb:=uh ((HB.out.grown HG8.out (by simp)).grown (zh HG9.out HG10.out) (by simp))
    have hself:∀z:ByteArray,(z.toList == z.toList)=true:=λz=>by simp
    clear hcell;go_wp2
    exact⟨⟨HG10.out,Or.inr rfl⟩,by simp[intOf]⟩
   ·have HGR:=zd hg
    clear hg
    go_wp2_with (go_at_call 17;refine(HW.out _).mono ?_;rintro e w10 ⟨rfl,hg⟩;have HG10:=zd hg;clear hg)
    go_ret
    exact⟨rfl,zh HG8.out (zh HG9.out (zh HGR.out HG10.out))⟩
open Go.RowKit Go.Sf Go.Shelf
def KE (W:World) (st db:Nat) (S:Sto) (w:World):Prop:=∃own,KR W own st db S w
def DX (W:World) (db:Nat) (d:Dk) (w:World):Prop:=∃own:Nat→Prop,(∀k,k<W.heap.size→own k)∧vk own w db d∧W.grownBy w none
section
variable {W w w1 : World} {st db : Nat} {S : Sto} {d : Dk}
theorem KE.gr (h:KE W st db S w):W.grownBy w none:=by
 obtain⟨own,h⟩:=h
 exact h.gr
theorem KE.grown (h:KE W st db S w1) (hg:w1.grownBy w none):KE W st db S w:=by
 obtain⟨own,h⟩:=h
 exact⟨own,h.grown hg⟩
theorem KE.put (h:KE W st db S w1) (hg:w1.grownBy w none) (hv:xw (λk=>w1.heap.size≤k∧k<w.heap.size) w v (zg b)) (hb:BL b) (hl:b.length≤100000000) (hf:S.d.late.length+600<1000000) :
  Calls Tryz.prog 20 #[.pointer (some ⟨st,0,none⟩),v] w λe w'=>e = .returned (.tuple #[.int .i64 (S.put b).2.1,.int .i64 (S.put b).2.2])∧KE W st db (S.put b).1 w':=by
 obtain⟨own,h⟩:=h;refine((h.more hg).put (hv.mono λk hk=>Or.inr hk) hb hl hf).mono ?_
 rintro e w' ⟨rfl,hr,-⟩
 exact⟨rfl,_,hr⟩
theorem KE.rem (h:KE W st db S w) (k:Int) (hf:S.d.late.length<1000000):Calls Tryz.prog 30 #[.pointer (some ⟨st,0,none⟩),.int .i64 k] w λe w'=>e = .returned (.int .i64 (S.rem k).2)∧KE W st db (S.rem k).1 w':=by
 obtain⟨own,h⟩:=h;refine(h.rem k hf).mono ?_;rintro e w' ⟨rfl,hr,-⟩
 exact⟨rfl,_,hr⟩
theorem KE.fail (h:KE W st db S w):Calls Tryz.prog 28 #[.pointer (some ⟨db,0,none⟩),.int .i64 0] w λe w'=>e = .returned (.tuple #[])∧KE W st db { S with d:=S.d.failed 0 } w':=by
 obtain⟨own,h⟩:=h;refine(h.fail 0 (by decide)).mono ?_
 rintro e w' ⟨rfl,hr,-⟩
 exact⟨rfl,_,hr⟩
theorem KE.on (h:KE W st db S w1) (hg:w1.grownBy w none) (hv:xw (λk=>w1.heap.size≤k∧k<w.heap.size) w v (zg b)) (hb:BL b) (hl:b.length≤1000000) :
  Calls Tryz.prog 34 #[.pointer (some ⟨db,0,none⟩),v] w λe w'=>e = .returned (.tuple #[])∧DX W db (S.d.on b) w':=by
 obtain⟨own,h⟩:=h;have h2:=h.more hg;obtain⟨mb,tb,rv,rb,hs⟩:=h2.rep;have hlt:∀{k:Nat},(own k∨(w1.heap.size≤k∧k<w.heap.size))→k<w.heap.size:=λ{k} hk=>KR.lt h2 hk
 refine(don (hs.disk.less λk hk=>Or.inl hk) (λw2 ht=>(hv.turn λk hk=>ht.block k (hlt (Or.inr hk)) λe=>e (Or.inr hk)).raw) hb hl).mono ?_
 rintro e w' ⟨rfl,hd,ht⟩
 exact⟨rfl,_,h2.old,hd,xa h2.gr h2.old ht⟩
theorem KE.numbers (h:KE W st db S w) (hk:∀r∈S.recs,1≤r.1∧r.1≤4611686018427387904) (hl:S.recs.length≤1000000):Calls Tryz.prog 26 #[.pointer (some ⟨st,0,none⟩)] w λe w'=>w.grownBy w' none∧∃p c,e = .returned (.slice p S.recs.length c):=by
 obtain⟨own,h⟩:=h;refine(h.numbers hk hl).mono ?_;rintro e w' ⟨hg,v,rfl,hv⟩;refine⟨hg,?_⟩
 rcases hv.2 with ⟨rfl,e0⟩|⟨g,cap,cur,rfl,_⟩
 ·exact⟨none,0,by rw[e0]⟩
 ·exact⟨_,_,rfl⟩
theorem DX.open (h:DX W db d w) (hs:xd d) (hl:d.late.length+d.n<1000000):Calls Tryz.prog 18 #[.pointer (some ⟨db,0,none⟩)] w λe w'=>∃st ks,e = .returned (.tuple #[.pointer (some ⟨st,0,none⟩),.int .i64 0])∧jc d ks∧KE W st db (openS d ks) w':=by
 obtain⟨own,h1,h2,h3⟩:=h;refine(zbl h3 h1 h2 hs hl).mono ?_;rintro e w' ⟨st,ks,rfl,hk,hr,-⟩
 exact⟨st,ks,rfl,hk,_,hr⟩
end
set_option maxRecDepth 100000
set_option maxHeartbeats 8000000
theorem zh2 (k j:Nat) (hk:k<8) (hj:j<8) (W:World):Calls Tryz.prog 47 #[.int .i64 (k:Int),.int .i64 (j:Int)] W λe w'=>e = .returned (.bool true)∧W.grownBy w' none:=by
 have HN:=zd (dnew 1 W);have hcv:=λ(w:World) (C:Array Value) (n c:Nat)=>Lib.run_convert_bytes_const (P:=Tryz.prog) w 32 5 C n c Tryz.underlying32 Tryz.underlying5
 have hwk:(k:Int)%256=k:=by omega
 have hwj:(j:Int)%256=j:=by omega
 have HK:=zd hk;have HJ:=zd hj;clear hk hj
 go_enter Tryz.func47,Tryz.ntmps47
 go_upto_region 3 with (first
  | (go_at_call 19;refine HN.out.mono ?_;rintro e w1 ⟨db,rfl,hg1,-,hd1⟩;have HOP:=zd ((show DX W db (Dk.new 1) w1 from ⟨λk=>k<W.heap.size,λk hk=>hk,hd1 _ λk hk=>hk,hg1⟩).open (Zz 1) (by decide));clear hg1 hd1)
  | (go_at_call 18;refine HOP.out.mono ?_;rintro e w2 ⟨st,ks,rfl,hks,hst⟩;rw[Jn (zgm 1) hks] at hst;have HS:=zd (show KE W st db (S0 1) w2 from hst);clear hst hks HOP))
 have HP1:Hid (∀w,w2.grownBy w none→∀v,xw (λk=>w2.heap.size≤k∧k<w.heap.size) w v (zg Jb)→Calls Tryz.prog 20 #[.pointer (some ⟨st,0,none⟩),v] w λe w'=>e = .returned (.tuple #[.int .i64 1,.int .i64 0])∧KE W st db G1 w'):=(show ∀w,_→∀v,_→Calls _ _ _ _ _ from λw hg v hv=>by
  have:=HS.out.put hg hv (λb hb=>by simp[Jb] at hb;omega) (by decide) (by decide)
  rw[g1_put] at this
  exact this)
 go_upto_region 6 with (go_at_call 20;refine(HP1.out _ (ze _ _ none) _ (Va (b:=Jb) (cap:=7) _ (by decide) (by decide) _ (Nat.le_refl _))).mono ?_;rintro e w3 ⟨rfl,hst⟩;have HS1:=zd hst;have HF:=zd hst.fail;clear hst)
 go_upto_region 7 with (go_at_call 28;refine HF.out.mono ?_;rintro e w4 ⟨rfl,hst⟩;have hr:=hst.rem 1 (by decide);rw[g2_rem] at hr;have HR:=zd hr;clear hst hr)
 go_upto_region 8 with (go_at_call 30;refine HR.out.mono ?_;rintro e w5 ⟨rfl,hst⟩;have HS2:=zd hst;clear hst)
 have HO:Hid (∀w,w5.grownBy w none→∀v,xw (λk=>w5.heap.size≤k∧k<w.heap.size) w v (zg [(k:Int)])→Calls Tryz.prog 34 #[.pointer (some ⟨db,0,none⟩),v] w λe w'=>e = .returned (.tuple #[])∧DX W db (D3 k) w'):=(show ∀w,_→∀v,_→Calls _ _ _ _ _ from λw hg v hv=>by
  have:=HS2.out.on hg hv (λb hb=>by have:=HK.out;simp at hb;omega) (by simp)
  rw[g3_on] at this
  exact this)
 go_upto_region 9 with (go_at_call 34;refine(HO.out _ (ze _ _ none) _ (Zy (b:=[(k:Int)]) (cap:=1) (by simp) (by decide) _ (Nat.le_refl _))).mono ?_;rintro e w6 ⟨rfl,hst⟩;have HOP:=zd (hst.open (steady3 k) (by show 0+1<1000000;decide));clear hst)
 go_upto_region 10 with (go_at_call 18;refine HOP.out.mono ?_;rintro e w7 ⟨st2,ks2,rfl,hks,hst⟩;have HKS:=zd hks;have HS3:=zd hst;clear hst hks HOP)
 clear HN HP1 HS HS1 HF HR HS2 HO
 rcases Nat.eq_zero_or_pos k with h0|h1
 ·subst h0
  obtain⟨x,hx⟩:=g4_recs HKS.out;have hnu:=HS3.out.numbers (by rw[show((0:Nat):Int)=0 from rfl,hx];simp) (by rw[show((0:Nat):Int)=0 from rfl,hx];simp)
  rw[show((0:Nat):Int)=0 from rfl,hx] at hnu
  have HNU:=zd hnu;clear hnu hx
  go_wp2_with (go_at_call 26;refine HNU.out.mono ?_;rintro e w8 ⟨hg,p,c,rfl⟩;have HG8:=zd hg;clear hg)
  go_ret
  exact⟨rfl,zh HS3.out.gr HG8.out⟩
 ·have hst:=HS3.out
  rw[g5_open h1 HK.out HKS.out] at hst;have HS4:=zd hst;have hnu:=hst.numbers (by simp[S3]) (by simp[S3])
  have HNU:=zd hnu;clear hnu hst HS3 HKS;have hk0:(0:Int)<(k:Int):=by omega
  have hk1:¬(k:Int)=0:=by omega
  go_upto_region 14 with (go_at_call 26;refine HNU.out.mono ?_;rintro e w8 ⟨hg,p,c,rfl⟩;have HS5:=zd (HS4.out.grown hg);clear hg)
  have HF:=zd HS5.out.fail;clear HS4 HNU
  go_upto_region 15 with (go_at_call 28;refine HF.out.mono ?_;rintro e w9 ⟨rfl,hst⟩;have HS6:=zd hst;clear hst)
  have HP2:Hid (∀w,w9.grownBy w none→∀v,xw (λk=>w9.heap.size≤k∧k<w.heap.size) w v (zg zcq)→Calls Tryz.prog 20 #[.pointer (some ⟨st2,0,none⟩),v] w λe w'=>e = .returned (.tuple #[.int .i64 0,.int .i64 180])∧KE W st2 db ⟨⟨1,[(0,zr)],[(0,Jl zcq)],[(0,Jl zcq)],6,-1,true⟩,[],[false],1,180⟩ w'):=(show ∀w,_→∀v,_→Calls _ _ _ _ _ from λw hg v hv=>by
   have:=HS6.out.put hg hv (λb hb=>by simp[zcq] at hb;omega) (by decide) (by decide)
   rw[g6_put] at this
   exact this)
  go_upto_region 16 with (go_at_call 20;refine(HP2.out _ (ze _ _ none) _ (Va (b:=zcq) (cap:=7) _ (by decide) (by decide) _ (Nat.le_refl _))).mono ?_;rintro e w10 ⟨rfl,hst⟩;have HS7:=zd hst;clear hst)
  have HO2:Hid (∀w,w10.grownBy w none→∀v,xw (λk=>w10.heap.size≤k∧k<w.heap.size) w v (zg [(j:Int)])→Calls Tryz.prog 34 #[.pointer (some ⟨db,0,none⟩),v] w λe w'=>e = .returned (.tuple #[])∧DX W db (D6 j) w'):=(show ∀w,_→∀v,_→Calls _ _ _ _ _ from λw hg v hv=>by
   have:=HS7.out.on hg hv (λb hb=>by have:=HJ.out;simp at hb;omega) (by simp)
   rw[g7_on] at this
   exact this)
  clear HS5 HF HS6 HP2
  go_upto_region 17 with (go_at_call 34;refine(HO2.out _ (ze _ _ none) _ (Zy (b:=[(j:Int)]) (cap:=1) (by simp) (by decide) _ (Nat.le_refl _))).mono ?_;rintro e w11 ⟨rfl,hst⟩;have HOP:=zd (hst.open (steady6 j) (by show 0+1<1000000;decide));clear hst)
  go_upto_region 18 with (go_at_call 18;refine HOP.out.mono ?_;rintro e w12 ⟨st3,ks3,rfl,hks,hst⟩;have hnu:=hst.numbers (by rw[zgs HJ.out hks];simp) (by rw[zgs HJ.out hks];simp);rw[zgs HJ.out hks] at hnu;have HNU:=zd hnu;have HG12:=zd hst.gr;clear hst hks hnu HOP)
  go_wp2_with (go_at_call 26;refine HNU.out.mono ?_;rintro e w13 ⟨hg,p,c,rfl⟩;have HG13:=zd hg;clear hg)
  go_ret
  exact⟨rfl,zh HG12.out HG13.out⟩
theorem zkk:zk 131072=570:=by decide +kernel
theorem free570:(yj (List.replicate 600 false) 570 600).length=570:=by decide +kernel
theorem free30:freeN (qa (List.replicate 600 false) (yj (List.replicate 600 false) 570 600) true)=30:=by decide +kernel
theorem zkg (S:Sto) (k:Int) (b:List Int) (fr:List Nat):((S.kept k b fr).next1).taken=qa S.taken fr true:=rfl
theorem ex600 (m:List Int) (hl:m.length=131072):∃S1,(S0 600).put m=(S1,1,0)∧freeN S1.taken=30:=by
 have ht:(S0 600).taken=List.replicate 600 false:=rfl;have htl:(S0 600).taken.length=600:=by rw[ht,List.length_replicate]
 obtain⟨d1,s1,n1,l1,e⟩:=zed (S:=S0 600) (Zz 600) rfl (by decide) (by rw[htl];rfl) (b:=m) (by rw[hl];exact Nat.le_refl _) (by rw[hl,zkk,htl,ht];exact free570)
 refine⟨_,e,?_⟩;rw[hl,zkk,htl,zkg]
 show freeN (qa (S0 600).taken (yj (S0 600).taken 570 600) true)=30
 rw[ht]
 exact free30
theorem ex601 (m:List Int) (hl:m.length=131073):(S0 600).put m=(S0 600,0,3):=by
 unfold Sto.put;rw[if_neg (by decide),if_pos (Or.inl (by rw[hl];omega))]
theorem parts30 (W:World):Calls Tryz.prog 15 #[.int .i64 131072] W λe w'=>e = .returned (.int .i64 570)∧w'=W:=by
 have h:=zbo 131072 (by decide) W
 rw[if_neg (by decide),show(131072:Int).toNat=131072 from rfl,zkk] at h
 exact h
theorem Ve (w:World) {rest:List Oper} {o:Oper} (hw:Region.wanted o (yielded ops a.tmps)=true) (t t2:TypeId) (x y:Operand) (hop:o.op=Op.binOp .rem t x y t2) (n c q:Int) (hx:a.eval x = .int .i64 n) (hy:a.eval y = .int .i64 c) (hc:c≠0) (hq:n.tmod c=q)
 (h:wpList P ops Q rest (a.put o.dst (.int .i64 q)) w):wpList P ops Q (o :: rest) a w:=by
 have hr:(execOp a.eval o).run P w = .ok (.value (.int .i64 q)) w:=by
  unfold execOp;rw[hop]
  change (do eqGuard .rem t x y (a.eval x) (a.eval y);pure (Next.value (←binOp .rem t (a.eval x) (a.eval y))):Sem Next).run P w=_
  rw[hx,hy,eqGuard_rem,binOp_rem];unfold Op.intDiv;rw[if_neg hc,hq]
  rfl
 exact wpList_step λK hK=>by rw[if_pos hw];simp only[Oper.wp,hr,Oper.upon];exact hK _ _ h
theorem zjv (w:World) {rest:List Oper} {o:Oper} (hw:Region.wanted o (yielded ops a.tmps)=true) (t t2:TypeId) (x y:Operand) (hop:o.op=Op.binOp .quo t x y t2) (n c q:Int) (hx:a.eval x = .int .i64 n) (hy:a.eval y = .int .i64 c) (hc:c≠0) (hq:IntKind.i64.wrap (n.tdiv c)=q)
 (h:wpList P ops Q rest (a.put o.dst (.int .i64 q)) w):wpList P ops Q (o :: rest) a w:=by
 have hr:(execOp a.eval o).run P w = .ok (.value (.int .i64 q)) w:=by
  unfold execOp;rw[hop]
  change (do eqGuard .quo t x y (a.eval x) (a.eval y);pure (Next.value (←binOp .quo t (a.eval x) (a.eval y))):Sem Next).run P w=_
  rw[hx,hy,eqGuard_quo,binOp_quo];unfold Op.intDiv;rw[if_neg hc,hq]
  rfl
 exact wpList_step λK hK=>by rw[if_pos hw];simp only[Oper.wp,hr,Oper.upon];exact hK _ _ h
theorem zk5 (z:Int) (h1 : -2≤z) (h2:z≤1000) (W:World):Calls Tryz.prog 3 #[.int .i64 z] W λe w'=>e = .returned (.bool true)∧W.grownBy w' none:=by
 rcases Int.lt_or_le z 0 with h|h
 ·exact zk6 z (by omega) (Or.inl h) W
 ·obtain⟨n,rfl⟩:=Int.eq_ofNat_of_zero_le h
  exact zji n (by omega) W
theorem zqb (va vb:Value) (la lb:List Int) (cut:Nat) (hcut:cut<256) (W:World) (ha:zx W va la) (hb:zx W vb lb) (hla:BL la) (hlb:BL lb) (h1:la.length≤230) (h2:lb.length≤230) :
  Calls Tryz.prog 4 #[va,vb,.int .u8 (cut:Int)] W λe w'=>e = .returned (.bool true)∧W.grownBy w' none:=zk9 va vb la lb cut hcut W ha hb hla hlb h1 h2
theorem zhs (vs:List (Nat × Value)):(Tryz.prog).built 49 vs=Instr.fill (λi=>(#[(0,1),(1,1),(2,1),(3,1),(4,1)]:Array (Nat × Nat))[i]?) #[.int .u8 0,.slice none 0 0,.int .u8 0,.int .i64 0,.slice none 0 0] vs:=by
 kernel_rfl
theorem vi (C:Array Value) (ps:Array (Nat × Operand)) (vs:List (Nat × Value)) {rest:List Oper} {o:Oper} (hop:o.op = .build 49 ps) (hgd:o.guard=none)
 (hx:ps.toList.map (λp=>(p.1,a.eval p.2))=vs) (hb:Instr.fill (λi=>(#[(0,1),(1,1),(2,1),(3,1),(4,1)]:Array (Nat × Nat))[i]?) #[.int .u8 0,.slice none 0 0,.int .u8 0,.int .i64 0,.slice none 0 0] vs=some C) (k:wpList Tryz.prog ops Q rest (a.put o.dst (.agg C)) w):wpList Tryz.prog ops Q (o :: rest) a w:=by
 have h:(execOp a.eval o).run Tryz.prog w = .ok (.value (.agg C)) w:=by
  have hr:=run_build (P:=Tryz.prog) w 49 (ps.map λp=>(p.1,a.eval p.2)) C (by rw[Array.toList_map,hx,zhs,hb])
  unfold execOp;rw[hop]
  change (do pure (Next.value (←Instr.build 49 (ps.map λp=>(p.1,a.eval p.2)))):Sem Next).run Tryz.prog w=_
  generalize Instr.build 49 (ps.map λp=>(p.1,a.eval p.2))=q at *
  simp[go_sem,hr]
 exact wpList_plain hgd λK hK=>by simp only[Oper.wp,h,Oper.upon];exact hK _ _ k
theorem qq {s t:TypeId} {x:Operand} {E y:Value} {W2:World} {rest:List Oper} {o:Oper} (hgd:o.guard=none) (hop:o.op = .convert s t x) (hx:a.eval x=E)
 (hv:(convert s t E).run Tryz.prog w = .ok y W2) (k:wpList Tryz.prog ops Q rest (a.put o.dst y) W2):wpList Tryz.prog ops Q (o :: rest) a w:=by
 have h:(execOp a.eval o).run Tryz.prog w = .ok (.value y) W2:=by
  unfold execOp;rw[hop]
  change (do pure (Next.value (←convert s t (a.eval x))):Sem Next).run Tryz.prog w=_
  rw[hx];generalize convert s t E=q at *;simp[go_sem,hv]
 exact wpList_plain hgd λK hK=>by simp only[Oper.wp,h,Oper.upon];exact hK _ _ k
theorem zhz:∀(l:List vn) (i j:Nat),i<l.length→j<5→((l.map yd).flatten)[i*5+j]? = (yd (l.getD i zht))[j]?
 | [],i,j,h,_=>by simp at h
 | c :: r,0,j,h,hj=>by
  rw[List.map_cons,List.flatten_cons,List.getElem?_append_left (by show 0*5+j<5;omega)]
  simp
 | c :: r,i+1,j,h,hj=>by
  have hl:(yd c).length=5:=rfl;rw[List.map_cons,List.flatten_cons,List.getElem?_append_right (by rw[hl];omega),hl,show(i+1)*5+j-5=i*5+j by omega,zhz r i j (by simpa using h) hj]
  simp
theorem zb2 {W w w':World} {l:List vn} {b:Nat} {C:Array Value} {T:TypeId} {fz:Nat × Nat} (hok:∀x∈l,qr w' x) (hl:l.length≤1000) (hb:w'.heap[b]? = some (.cells C T fz)) (hC:C=(l.map yd).flatten.toArray) :
  ur w' (.slice (some ⟨b,0,none⟩) l.length l.length) l:=by
 refine⟨_,_,rfl,by omega,hok,Or.inr ⟨b,0,rfl,λi hi j u hu=>?_⟩⟩
 have hj:j<5:=by
  rcases Nat.lt_or_ge j 5 with h|h
  ·exact h
  ·rw[List.getElem?_eq_none (by show 5≤j;exact h)] at hu
   cases hu
 rw[Nat.zero_add];refine(zf hb (i*5+j)).trans ?_;rw[hC,List.getElem?_toArray,zhz l i j hi hj]
 exact hu
end Go.Proofs.YtbcbhlfjgobejaaGreat
