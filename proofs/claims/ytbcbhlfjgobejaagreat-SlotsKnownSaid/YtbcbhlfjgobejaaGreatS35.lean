/- The document's disk does what the program's does: plain laws. Conditions: none, or as the theorems say. -/
import Derived.Test.YtbcbhlfjgobejaaGreatS34
import Derived.Test.YtbcbhlfjgobejaaGreatS1
import Derived.Test.YtbcbhlfjgobejaaGreatS32
import Derived.Test.YtbcbhlfjgobejaaGreatS26
set_option linter.unusedSimpArgs false
set_option linter.unusedVariables false
namespace Go.Proofs.YtbcbhlfjgobejaaGreat
set_option maxHeartbeats 200000000
open Go.Sf
variable {x:List Int}
section
variable {d : Dk} {R : RDk}
theorem zp5 (n:Int):xh (Dk.new n) (RDk.new n):=by
 refine⟨by simp[RDk.new,Dk.new],rfl,rfl,rfl,λi x hx=>?_,λi hi=>rfl,λw hw=>by simp[Dk.new] at hw⟩
 have:=List.mem_of_getElem? hx;rw[(List.mem_replicate.1 this).2]
 exact⟨rfl,rfl⟩
theorem zf7 (h:xh d R) (n:Int):xh (d.failed n) (R.failed n):=⟨h.n,h.done,rfl,h.gone,h.st,h.now,h.rng⟩
theorem zei (h:xh d R):xh d.crashed R.off:=⟨h.n,h.done,rfl,rfl,h.st,h.now,h.rng⟩
theorem zga (h:xh d R) (hw : -1≤d.well) (hs:d.stepB=true):xh d.went R.went:=by
 refine⟨h.n,by show R.done+1=d.steps+1;rw[h.done],?_,h.gone,h.st,h.now,h.rng⟩
 have h0:d.well≠0:=by simpa[Dk.stepB] using hs
 unfold RDk.went Dk.went;rw[h.well]
 show(if d.well>0 then d.well-1 else d.well)=max (-1) (d.well-1)
 split <;> omega
theorem zf8 (h:xh d R):xh d.gone R.fell:=⟨h.n,by show R.done+1=d.steps+1;rw[h.done],rfl,rfl,h.st,h.now,h.rng⟩
theorem zej (h:xh d R):R.stepB=d.stepB:=by
 unfold RDk.stepB Dk.stepB;rw[h.well];simp
theorem zja (h:xh d R) (i:Int):R.mayE i=d.mayE i 0:=by
 unfold RDk.mayE Dk.mayE;rw[h.gone,h.n];simp
theorem Jq (h:xh d R) {i:Nat} (hi:i<d.n):R.bytes i=bk d.now i:=by
 have hx:R.blocks[i]? = some (R.blocks[i]'(by rw[h.n];exact hi)):=List.getElem?_eq_getElem _
 unfold RDk.bytes;rw[hx]
 exact(h.read hx).symm
theorem may_len (d:Dk) (i:Int) (n:Nat):d.mayE i n=if d.mayE i 0≠0 then d.mayE i 0 else if 256<n then 3 else 0:=by
 unfold Dk.mayE
 cases d.off
 ·simp only[Bool.false_eq_true,if_false]
  by_cases h1:i<0∨(d.n:Int)≤i
  ·rw[if_pos h1,if_pos h1];rfl
  ·rw[if_neg h1,if_neg h1];rfl
 ·rfl
theorem Ue (h:xh d R) (hw : -1≤d.well) (i:Int) (b:List Int):R.writeV i b=d.writeV i b∧xh (d.written i b) (R.written i b):=by
 have hm:=zja h i;have e0:=may_len d i b.length;have hstep:(R.lay i.toNat (vf b)).stepB=d.stepB:=(show R.stepB=d.stepB from zej h)
 by_cases h0:d.mayE i 0=0
 ·obtain⟨_,a1,a2,_⟩:=zbm h0
  have hi:i.toNat<d.n:=by omega
  have hm0:R.mayE i=0:=by rw[hm,h0]
  by_cases hl:256<b.length
  ·have e1:d.mayE i b.length=3:=by rw[e0,if_neg (λe=>e h0),if_pos hl]
   have w1:d.writeV i b=3:=by unfold Dk.writeV;rw[e1];rfl
   have w2:d.written i b=d:=by unfold Dk.written;rw[e1];rfl
   have w3:R.writeV i b=3:=by unfold RDk.writeV;rw[hm0,if_neg (λe=>e rfl),if_pos hl]
   have w4:R.written i b=R:=by unfold RDk.written;rw[if_neg (λe=>by omega)]
   rw[w1,w2,w3,w4]
   exact⟨rfl,h⟩
  ·have e1:d.mayE i b.length=0:=by rw[e0,if_neg (λe=>e h0),if_neg hl]
   have w1:d.writeV i b=if d.stepB=true then 0 else 180:=by unfold Dk.writeV;rw[e1];rfl
   have w2:d.written i b=if d.stepB=true then (d.lay i.toNat (vf b)).went else (d.lay i.toNat (vf b)).gone:=by unfold Dk.written;rw[e1];rfl
   have w3:R.writeV i b=if d.stepB=true then 0 else 180:=by unfold RDk.writeV;rw[hm0,if_neg (λe=>e rfl),if_neg hl,hstep]
   have w4:R.written i b=if d.stepB=true then (R.lay i.toNat (vf b)).went else (R.lay i.toNat (vf b)).fell:=by unfold RDk.written;rw[if_pos ⟨hm0,by omega⟩,hstep]
   rw[w1,w2,w3,w4];refine⟨rfl,?_⟩;have hlay:=h.lay hi (vf b)
   cases hs:d.stepB
   ·simp only[Bool.false_eq_true,if_false]
    exact zf8 hlay
   ·simp only[if_true]
    exact zga hlay hw hs
 ·have e1:d.mayE i b.length=d.mayE i 0:=by rw[e0,if_pos h0]
  have w1:d.writeV i b=d.mayE i 0:=by unfold Dk.writeV;rw[e1,if_pos h0]
  have w2:d.written i b=d:=by unfold Dk.written;rw[e1,if_pos h0]
  have w3:R.writeV i b=d.mayE i 0:=by unfold RDk.writeV;rw[hm,if_pos h0]
  have w4:R.written i b=R:=by unfold RDk.written;rw[hm,if_neg (λe=>h0 e.1)]
  rw[w1,w2,w3,w4]
  exact⟨rfl,h⟩
theorem zgf (R:RDk):∀k i x,R.blocks[i]? = some x→(R.syncK k).blocks[i]? = some (if i<k then ⟨jo x.late x.settled,[]⟩ else x)
 | 0,i,x,hx=>by rw[if_neg (by omega)];exact hx
 | k+1,i,x,hx=>by
  have ih:=zgf R k i x hx;unfold RDk.syncK
  rcases Nat.lt_trichotomy i k with hl|rfl|hl
  ·rw[if_pos hl] at ih
   rw[if_pos (by omega)]
   split
   ·exact ih
   ·split
    ·simp only[RDk.setB]
     rw[List.getElem?_set_ne (by omega)]
     exact ih
    ·exact ih
  ·rw[if_neg (by omega)] at ih
   rw[ih,if_pos (by omega)]
   simp only
   split
   ·simp only[RDk.setB]
    rw[List.getElem?_set_self (List.getElem?_eq_some_iff.1 ih).1]
   ·rename_i h0
    have:x.late = []:=List.eq_nil_of_length_eq_zero (by omega)
    rw[ih];obtain⟨a,b⟩:=x;simp only at this;subst this
    rfl
  ·rw[if_neg (by omega)] at ih
   rw[if_neg (by omega)]
   split
   ·exact ih
   ·split
    ·simp only[RDk.setB]
     rw[List.getElem?_set_ne (by omega)]
     exact ih
    ·exact ih
theorem zeo (R:RDk):∀k,(R.syncK k).done=R.done∧(R.syncK k).well=R.well∧(R.syncK k).gone=R.gone
 | 0=>⟨rfl,rfl,rfl⟩
 | k+1=>by
  have ih:=zeo R k;unfold RDk.syncK
  split
  ·exact ih
  ·split
   ·exact ih
   ·exact ih
theorem zn2 (R:RDk):R.syncK R.blocks.length = { R with blocks:=R.blocks.map λb=>⟨jo b.late b.settled,[]⟩ }:=by
 obtain⟨h1,h2,h3⟩:=zeo R R.blocks.length;have hb:(R.syncK R.blocks.length).blocks=R.blocks.map λb=>⟨jo b.late b.settled,[]⟩:=by
  apply List.ext_getElem?
  intro i;rw[List.getElem?_map]
  cases e:R.blocks[i]? with
  | none=>
   rw[List.getElem?_eq_none (by rw[Vt];exact List.getElem?_eq_none_iff.1 e)]
   rfl
  | some x=>
   rw[zgf R _ i x e,if_pos (List.getElem?_eq_some_iff.1 e).1]
   rfl
 cases hr:R.syncK R.blocks.length with
 | mk a b c e=>
  rw[hr] at h1 h2 h3 hb;simp only at h1 h2 h3 hb;subst h1 h2 h3 hb
  rfl
theorem zbu (h:xh d R) (hw : -1≤d.well):R.syncV=d.syncV∧xh d.synced R.synced:=by
 unfold RDk.syncV Dk.syncV RDk.synced Dk.synced;rw[h.gone,zej h]
 cases d.off
 ·simp only[Bool.false_eq_true,if_false]
  cases hs:d.stepB
  ·simp only[Bool.false_eq_true,if_false]
   exact⟨trivial,zf8 h⟩
  ·simp only[if_true]
   refine⟨trivial,?_⟩;have hg:=(zga h hw hs).settle;have e:R.went.syncK R.blocks.length=R.went.syncK R.went.blocks.length:=rfl;rw[e,zn2]
   exact hg
 ·simp only[if_true]
  exact⟨trivial,h⟩
theorem zls (R:RDk) (fates:List Int):∀k i x,R.blocks[i]? = some x→(R.onK fates k).blocks[i]? = some (if i<k then ⟨Zr fates x.late x.settled,[]⟩ else x)
 | 0,i,x,hx=>by rw[if_neg (by omega)];exact hx
 | k+1,i,x,hx=>by
  have ih:=zls R fates k i x hx;unfold RDk.onK
  rcases Nat.lt_trichotomy i k with hl|rfl|hl
  ·rw[if_pos hl] at ih
   rw[if_pos (by omega)]
   split
   ·exact ih
   ·simp only[RDk.setB]
    rw[List.getElem?_set_ne (by omega)]
    exact ih
  ·rw[if_neg (by omega)] at ih
   rw[ih,if_pos (by omega)]
   simp only[RDk.setB];rw[List.getElem?_set_self (List.getElem?_eq_some_iff.1 ih).1]
  ·rw[if_neg (by omega)] at ih
   rw[if_neg (by omega)]
   split
   ·exact ih
   ·simp only[RDk.setB]
    rw[List.getElem?_set_ne (by omega)]
    exact ih
theorem zii (R:RDk) (fates:List Int):∀k,(R.onK fates k).done=R.done∧(R.onK fates k).well=R.well∧(R.onK fates k).gone=R.gone
 | 0=>⟨rfl,rfl,rfl⟩
 | k+1=>by
  have ih:=zii R fates k;unfold RDk.onK
  split
  ·exact ih
  ·exact ih
theorem onK_all (R:RDk) (fates:List Int):R.onK fates R.blocks.length = { R with blocks:=R.blocks.map λb=>⟨Zr fates b.late b.settled,[]⟩ }:=by
 obtain⟨h1,h2,h3⟩:=zii R fates R.blocks.length;have hb:(R.onK fates R.blocks.length).blocks=R.blocks.map λb=>⟨Zr fates b.late b.settled,[]⟩:=by
  apply List.ext_getElem?
  intro i;rw[List.getElem?_map]
  cases e:R.blocks[i]? with
  | none=>
   rw[List.getElem?_eq_none (by rw[zc2];exact List.getElem?_eq_none_iff.1 e)]
   rfl
  | some x=>
   rw[zls R fates _ i x e,if_pos (List.getElem?_eq_some_iff.1 e).1]
   rfl
 cases hr:R.onK fates R.blocks.length with
 | mk a b c e=>
  rw[hr] at h1 h2 h3 hb;simp only at h1 h2 h3 hb;subst h1 h2 h3 hb
  rfl
theorem zl3 (h:xh d R) (fates:List Int):xh (d.on fates) (R.on fates):=by
 unfold RDk.on Dk.on;rw[h.gone]
 cases d.off
 ·simp only[Bool.false_eq_true,if_false]
  exact⟨h.n,h.done,rfl,rfl,h.st,h.now,h.rng⟩
 ·simp only[if_true]
  have hg:=h.fates fates;have e:RDk.onK { R with well:=-1,gone:=false } fates R.blocks.length=RDk.onK { R with well:=-1,gone:=false } fates ({ R with well:=-1,gone:=false }:RDk).blocks.length:=rfl
  rw[e,onK_all]
  exact hg
end
open Go.RowKit Go.Sf Go.Shelf
section
variable {own rsd : Nat → Prop} {W : World} {db mb : Nat} {R : RDk} {d : Dk}
set_option maxRecDepth 100000 in
theorem zib (hd:vk own W db d) (hr:R18 rsd W mb R) (hs:xh d R):Calls Tryz.prog 38 #[.pointer (some ⟨db,0,none⟩),.pointer (some ⟨mb,0,none⟩)] W λe w'=>e = .returned (.bool true)∧W.grownBy w' none:=by
 have HD:=zd hd;have HR:=zd hr;have HS:=zd hs;have HB:=zd (λw (h:W.grownBy w none)=>zgp (HD.out.kept h))
 have HST:=zd (λw (h:W.grownBy w none)=>dsteps (HD.out.kept h))
 have HO:=zd (λw (h:W.grownBy w none)=>doff (HD.out.kept h))
 obtain⟨bv,bs,hA⟩:=hr;obtain⟨p,cap,rfl,-,-⟩:=hA.form;obtain⟨c0,c1,c2,c3,y⟩:=hA.cells;have hn4:=hA.n;have HN:Hid (R.blocks.length=d.n):=(show _=_ from hs.n)
 rw[←HN.out] at HB;rw[←hs.done] at HST;rw[←hs.gone] at HO;clear hd hs hA;obtain⟨n,hnn⟩:∃n,n=R.blocks.length:=⟨_,rfl⟩;have HNN:=zd hnn;rw[←hnn] at c0 hn4 HB;clear hnn
 go_enter Tryz.func38,Tryz.ntmps38
 go_upto_region 1 with fail
 have hg1:W.grownBy W.drew none:=zj (zi _);refine qH (S:=λw':World=>w'.cell? ⟨mb,0,none⟩=some (.slice p n cap)∧w'.cell? ⟨mb,1,none⟩=some (.int .i64 (wrap64 R.done))∧w'.cell? ⟨mb,3,none⟩=some (.bool R.gone)) ⟨c0,c1,c3⟩ (λhHeld=>?_)
 refine qT 0 ?_;refine qT 2 ?_;refine qT 3 ?_;refine qT 4 ?_;refine qT 5 ?_;refine qT 6 ?_;refine qO 1 λK hK=>?_
 go_simp
 go_at_call 81
 refine(HB.out _ hg1).mono ?_;rintro e w1 ⟨rfl,h1⟩;obtain rfl:w1=W.drew:=h1;refine hK.out _ _ ⟨c0,c1,c3⟩ (λhHeld=>?_)
 clear hK K;refine qT 7 ?_;refine qT 8 ?_;refine qT 9 ?_;refine qT 11 ?_;refine qT 12 ?_;refine qT 13 ?_;refine qT 14 ?_;refine qO 10 λK hK=>?_
 go_simp
 go_at_call 113
 refine(HST.out _ hg1).mono ?_;rintro e w2 ⟨rfl,h2⟩;obtain rfl:w2=W.drew:=h2;refine hK.out _ _ ⟨c0,c1,c3⟩ (λhHeld=>?_)
 clear hK K;refine qT 15 ?_;refine qT 16 ?_;refine qT 17 ?_;refine qT 18 ?_;refine qT 20 ?_;refine qT 21 ?_;refine qT 22 ?_;refine qT 23 ?_;refine qO 19 λK hK=>?_
 go_simp
 go_at_call 33
 refine(HO.out _ hg1).mono ?_;rintro e w3 ⟨rfl,h3⟩;obtain rfl:w3=W.drew:=h3;refine hK.out _ _ ⟨c0,c1,c3⟩ (λhHeld=>?_)
 clear hK K;refine qT 24 ?_;refine qT 25 ?_;refine qD ?_;clear hHeld;have HG1:=zd hg1;clear hg1
 go_upto_region 4 with fail
 go_loopw [5] (λi wr=>∃j:Nat,j≤n∧i = .int .i64 (j:Int)∧W.grownBy wr none) (λi _=>n-(intOf i).toNat)
 case atStart=>exact⟨0,by omega,rfl,HG1.out⟩
 case round=>
  obtain⟨j,hj,rfl,hg⟩:=hrel;have HG:=zd hg;have e0:=hg.cell c0 (by simp)
  clear hg
  by_cases hjn:j<n
  ·have hjd:j<d.n:=by have:=HNN.out;have:=HN.out;omega
   have hr1:=dread (HD.out.kept HG.out) (j:Int);unfold Yi at hr1;have HR1:=zd hr1;clear hr1;have HR2:=zd (λw (h:W.grownBy w none)=>rread (HR.out.kept h) (j:Int))
   have hmm:=zja HS.out (j:Int);rw[hmm] at HR2;have hby:R.bytes ((j:Int)).toNat=bk d.now ((j:Int)).toNat:=by rw[Int.toNat_natCast];exact Jq HS.out hjd
   rw[hby] at HR2;have HBL:Hid (∀w v,zjy wr w v (bk d.now ((j:Int)).toNat)→zx w v (bk d.now ((j:Int)).toNat)):=(λw v h=>by
    obtain⟨⟨g,e,_,h2⟩,hl,_⟩:=h;refine⟨some ⟨g,0,none⟩,256,by rw[e,hl],Or.inr ⟨_,rfl,λj u hu=>?_⟩⟩
    rw[ut]
    exact(zf h2 j).trans (by simpa using hu))
   generalize bk d.now ((j:Int)).toNat=x at *;generalize d.mayE (j:Int) 0=ev at *;clear hmm hby
   by_cases hez:ev=0
   ·subst hez
    go_upto_region 8 with (first
     | (go_at_call 114;refine HR1.out.mono ?_;rintro e w5 ⟨hg5,v5,rfl,hv5⟩;have hb5:zjy wr w5 v5 x:=hv5.elim (λh=>absurd rfl h.1) (λh=>h.2);have HV5:=zd (HBL.out w5 v5 hb5);have HG5:=zd (zh HG.out hg5);clear hg5 hv5 hb5)
     | (go_at_call 107;refine(HR2.out _ HG5.out).mono ?_;rintro e w6 ⟨rfl,h6⟩;obtain rfl:w5=w6:=h6.symm))
    have hcv:=uh HV5.out;go_wp2
    exact⟨⟨j+1,by omega,by simp,HG5.out⟩,by simp[intOf];omega⟩
   ·have hcv:∀w,(convert 32 9 (.slice none 0 0)).run Tryz.prog w = .ok (.string ⟨#[]⟩) w:=λw=>uh (l:=[]) ⟨none,0,rfl,Or.inl rfl⟩
    rw[if_neg hez] at HR2
    go_upto_region 8 with (first
     | (go_at_call 114;refine HR1.out.mono ?_;rintro e w5 ⟨hg5,v5,rfl,hv5⟩;obtain rfl:v5 = .slice none 0 0:=hv5.elim (λh=>h.2) (λh=>absurd h.1 hez);have HG5:=zd (zh HG.out hg5);clear hg5 hv5)
     | (go_at_call 107;refine(HR2.out _ HG5.out).mono ?_;rintro e w6 ⟨rfl,h6⟩;obtain rfl:w5=w6:=h6.symm))
    have hcv5:=hcv w5;go_wp2
    exact⟨⟨j+1,by omega,by simp,HG5.out⟩,by simp[intOf];omega⟩
  ·obtain rfl:j=n:=by omega
   go_wp2
   go_ret
   exact⟨rfl,HG.out⟩
end
theorem zlr (hb:BL x) {k:Nat} (hk:k<x.length) (hk2:k<(ofB x).size):((ofB x)[k].toNat:Int)=x[k]:=by
 have h:=hb x[k] (List.getElem_mem hk);have e:(ofB x)[k]=UInt8.ofNat x[k].toNat:=by
  show((x.map λb=>UInt8.ofNat b.toNat).toArray)[k]'(by simpa using hk)=_
  rw[List.getElem_toArray,List.getElem_map]
 rw[e,UInt8.toNat_ofNat'];omega
theorem zn8 (hx:x.length=256) (h:∀j,j<256→x[j]? = some 0):x=zr:=by
 apply List.ext_getElem?
 intro i
 rcases Nat.lt_or_ge i 256 with hi|hi
 ·rw[h i hi]
  unfold zr;rw[List.getElem?_replicate,if_pos hi]
 ·rw[List.getElem?_eq_none (by omega),List.getElem?_eq_none (by rw[xt];exact hi)]
set_option maxRecDepth 100000 in
theorem zkt (hx:x.length=256) (hb:BL x) (W:World):Calls Tryz.prog 109 #[.string (ofB x)] W λe w'=>e = .returned (.bool (decide (x=zr)))∧w'=W:=by
 have hsz:(ofB x).size=256:=by rw[yu];exact hx
 go_enter Tryz.func109,Tryz.ntmps109
 go_wp2
 go_loopw [3] (λi wr=>W=wr∧∃k:Nat,k≤256∧i = .int .i64 k∧∀j,j<k→x[j]? = some 0) (λi _=>256-(intOf i).toNat)
 case atStart=>exact⟨rfl,0,by omega,rfl,by simp⟩
 case round=>
  obtain⟨rfl,k,hk,rfl,hall⟩:=hrel
  by_cases hkm:k<256
  ·have hkl:k<x.length:=by omega
   have hg:=zlr hb hkl (by rw[hsz];exact hkm)
   by_cases h0:x[k]=0
   ·have hne:(((ofB x)[k]'(by rw[hsz];exact hkm)).toNat:Int)=0:=by rw[hg];exact h0
    have HA:Hid (∀j,j<k+1→x[j]? = some 0):=(λj hj=>by
     rcases Nat.lt_or_ge j k with h|h
     ·exact hall j h
     ·obtain rfl:j=k:=by omega
      rw[List.getElem?_eq_getElem hkl,h0])
    clear hall hg;go_wp2;refine⟨⟨trivial,k+1,by omega,by simp,HA.out⟩,by simp[intOf];omega⟩
   ·have hne:¬(((ofB x)[k]'(by rw[hsz];exact hkm)).toNat:Int)=0:=by rw[hg];exact h0
    have hd:decide (x=zr)=false:=by
     rw[decide_eq_false_iff_not];intro e
     apply h0
     have:x[k]? = some 0:=by
      rw[e];unfold zr;rw[List.getElem?_replicate,if_pos hkm]
     rw[List.getElem?_eq_getElem hkl] at this
     injection this
    have HD:=zd hd;clear hall hg hd;go_wp2
    go_ret
    exact⟨by rw[HD.out];rfl,rfl⟩
  ·obtain rfl:k=256:=by omega
   have hd:decide (x=zr)=true:=by
    rw[decide_eq_true_iff]
    exact zn8 hx hall
   have HD:=zd hd;clear hall hd;go_wp2
   go_ret
   exact⟨by rw[HD.out];rfl,rfl⟩
theorem zai:∀(l:List Int) (a n:Nat),a<256 ^ n→(∀b∈l,0≤b∧b≤255)→l.foldl (λa b=>a*256+b.toNat) a<256 ^ (n+l.length)
 | [],a,n,ha,_=>ha
 | b :: t,a,n,ha,h=>by
  have hb:=h b (by simp)
  have:=zai t (a*256+b.toNat) (n+1) (by rw[Nat.pow_succ];omega) (λc hc=>h c (List.mem_cons_of_mem _ hc))
  rw[show n+(b :: t).length=n+1+t.length by simp;omega]
  exact this
set_option maxRecDepth 100000 in
theorem Qg {W:World} {v:Value} {l:List Int} (hv:zx W v l) (hb:BL l) (hl:l.length≤8):Calls Tryz.prog 179 #[v] W λe w'=>e = .returned (.int .u64 (num l:Int))∧w'=W:=by
 obtain⟨p,cap,rfl,hc⟩:=hv.ex;have HC:=zd hc;have HB:=zd hb;obtain⟨n,hn⟩:∃n,n=l.length:=⟨_,rfl⟩;rw[←hn];have HN:=zd hn;rw[←hn] at hl;clear hv hb hn hc
 go_enter Tryz.func179,Tryz.ntmps179
 go_wp2
 go_loopw [3,4] (λr i wr=>W=wr∧∃k:Nat,k≤n∧r = .int .u64 (num (l.take k):Int)∧i = .int .i64 k) (λ_ i _=>n-(intOf i).toNat)
 case atStart=>exact⟨rfl,0,by omega,rfl,rfl⟩
 case round=>
  obtain⟨rfl,k,hk,rfl,rfl⟩:=hrel
  by_cases hkn:k<n
  ·have hkl:k<l.length:=by rw[←HN.out];exact hkn
   have hcell:∃a,p=some a∧W.cell? (a.add k)=some (.int .u8 l[k]):=by
    rcases HC.out with h0|⟨a,rfl,h1⟩
    ·rw[h0] at hkl;simp at hkl
    ·exact⟨a,rfl,h1 k _ (by simp[zg,hkl])⟩
   obtain⟨a,rfl,cell⟩:=hcell;have hbk:=HB.out l[k] (List.getElem_mem _);have hlt:num (l.take (k+1))<256 ^ 8:=Nat.lt_of_lt_of_le (zai (l.take (k+1)) 0 0 (by omega) (λb hb=>by have:=HB.out b (List.mem_of_mem_take hb);omega)) (Nat.pow_le_pow_right (by omega) (by rw[List.length_take];omega))
   have HS:Hid (num (l.take (k+1))=num (l.take k)*256+l[k].toNat):=(show _=_ from by rw[List.take_succ_eq_append_getElem hkl,zaj])
   rw[HS.out] at hlt;have hx:((l[k].toNat:Nat):Int)=l[k]:=by omega
   have HX:=zd hx;generalize l[k]=c at *;generalize num (l.take k)=q at *;clear hx;have e1:(q:Int)*256<18446744073709551616:=by omega
   have e2:(q:Int)*256+c<18446744073709551616:=by omega
   have e3:(0:Int)≤(q:Int)*256:=by omega
   have e4:(0:Int)≤(q:Int)*256+c:=by omega
   go_wp2;refine⟨⟨trivial,k+1,by omega,by rw[HS.out];congr 1;have:=HX.out;push_cast;omega,by simp⟩,by simp[intOf];omega⟩
  ·obtain rfl:k=n:=by omega
   have htk:l.take k=l:=List.take_of_length_le (by rw[←HN.out];exact Nat.le_refl _)
   have HTK:=zd htk;clear htk;go_wp2
   go_ret
   exact⟨by rw[HTK.out];rfl,rfl⟩
end Go.Proofs.YtbcbhlfjgobejaaGreat
