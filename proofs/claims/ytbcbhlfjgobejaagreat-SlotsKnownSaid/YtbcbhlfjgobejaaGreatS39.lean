/- starfishref19.Open: the walk. Conditions: none, or as the theorems say. -/
import Derived.Test.YtbcbhlfjgobejaaGreatS38
set_option linter.unusedSimpArgs false
set_option linter.unusedVariables false
namespace Go.Proofs.YtbcbhlfjgobejaaGreat
set_option maxHeartbeats 200000000
open Go.RowKit Go.Sf Go.Shelf
variable {k:Nat} {rss:Nat→Prop} {w1 w2:World}
section
variable {rs : Nat → Prop} {W w w' w9 : World} {db sb : Nat} {R : RDk} {L : List (Int × ye)} {next broken : Int}
theorem Xt.turn {v:Value} {X:List (List Int)} {Q:Nat→Prop} (h:Xt w v X) (hn:∀g off p n c,v = .slice p n c→p=some ⟨g,off,none⟩→¬Q g) (ht:zm Q w w'):Xt w' v X:=by
 obtain⟨p,cap,rfl,hc⟩:=h.ex;refine⟨⟨p,cap,rfl,?_⟩,h.ok,h.n⟩
 rcases hc with h0|⟨b,off,rfl,h1⟩
 ·exact Or.inl h0
 ·refine Or.inr ⟨b,off,rfl,λi hi=>?_⟩
  have hc:=h1 i hi;have hl:=xi hc;rw[←hc]
  exact World.cell?_of_block (a:=⟨b,off+i,none⟩) (ht.block b hl (hn b off _ _ _ rfl rfl))
theorem jb.setNext {lv:Value} {ms:List RcM} (h:jb rss w sb db lv ms L next broken) (n:Int):jb rss (w.setCell ⟨sb,2,none⟩ (.int .i64 n)) sb db lv ms L n broken:=by
 have hs:=zv w sb 2 (.int .i64 n);have hne:lv.ownBlock≠some sb:=ji h.row h.box (by decide)
 refine⟨?_,h.row.grown hs (λg hg e=>hne (by rw[hg];exact e.symm)),h.ok.turn (λk hk=>hs.block k (h.lt k hk.1) (λe=>hk.2.1 (by injection e))),h.rsb,h.rlv,λk hk=>Nat.lt_of_lt_of_le (h.lt k hk) hs.size⟩
 simp only[World.setCell,Array.getElem?_modify,h.box,if_true,Option.map_some]
 rfl
theorem S19.same (h:S19 rss w sb db L next broken) (hs:∀k,rss k→w'.heap[k]? = w.heap[k]?) (hz:w.heap.size≤w'.heap.size):S19 rss w' sb db L next broken:=by
 obtain⟨lv,ms,h⟩:=h
 exact⟨lv,ms,(hs _ h.rsb).trans h.box,h.row.same λg hg=>hs g (h.rlv g hg),h.ok.turn (λk hk=>hs k hk.1),h.rsb,h.rlv,λk hk=>Nat.lt_of_lt_of_le (h.lt k hk) hz⟩
theorem zm1 (h0:w9.heap.size≤w1.heap.size) (h1:w1.heap.size≤w2.heap.size):ua (ua rs w9 w1) w1 w2 k→ua rs w9 w2 k:=λh=>by
 rcases h with (h|h)|h
 ·exact Or.inl h
 ·exact Or.inr ⟨h.1,by omega⟩
 ·exact Or.inr ⟨by omega,h.2⟩
theorem zd0 (f:Nat→List Int):∀n,1≤nextR zo f n∧nextR zo f n≤4611686018427387905
 | 0=>⟨by unfold nextR;omega,by unfold nextR;omega⟩
 | n+1=>by
  have ih:=zd0 f n;unfold nextR
  cases e:saidP zo (f n) with
  | none=>simp only;omega
  | some p=>
   have h1:=(yr e).1.k1;have h2:=(yr e).1.k2;simp only;omega
theorem S19.nextSet (h:S19 rss w sb db L next broken) (n:Int):S19 rss (w.setCell ⟨sb,2,none⟩ (.int .i64 n)) sb db L n broken:=by
 obtain⟨lv,ms,h⟩:=h
 exact⟨lv,ms,h.setNext n⟩
theorem S19.kept (h:S19 rss w sb db L next broken) (hg:w.grownBy w' none):S19 rss w' sb db L next broken:=by
 obtain⟨lv,ms,hA⟩:=h
 exact S19.same ⟨lv,ms,hA⟩ (λk hk=>hg.block k (hA.lt k hk) (by simp)) hg.size
theorem S19.cells (h:S19 rss w sb db L next broken):w.cell? ⟨sb,2,none⟩=some (.int .i64 next)∧(∀i,w.frozen? ⟨sb,i,none⟩=false)∧sb<w.heap.size:=by
 obtain⟨lv,ms,hA⟩:=h
 exact⟨hA.cells.2.2.1,hA.cells.2.2.2.2,hA.lt sb hA.rsb⟩
theorem za6 (R:RDk) (i:Int) (b:List Int):yf (R.written i b)≤yf R+1:=by
 unfold RDk.written
 split
 ·rename_i h
  have hl:yf (R.lay i.toNat (vf b))≤yf R+1:=by
   obtain⟨_,k,rfl,hk⟩:=zl0 R i h.1;rw[Int.toNat_natCast,zij R hk]
   exact Nat.le_refl _
  split
  ·exact hl
  ·exact hl
 ·omega
theorem R18.upn (h:R18 (ua rs w9 w1) w1 db R) (hg:w1.grownBy w2 none) (h0:∀k,rs k→k<w9.heap.size) (h9:w9.heap.size≤w1.heap.size):R18 (ua rs w9 w2) w2 db R:=
 (h.kept hg).up (λk hk=>hk.imp id λe=>⟨e.1,by have:=hg.size;omega⟩) (λk hk=>by
  have:=hg.size
  rcases hk with e|e
  ·have:=h0 k e;omega
  ·exact e.2)
theorem R18.upw (h:R18 (ua (ua rs w9 w1) w1 w2) w2 db R) (h0:∀k,rs k→k<w9.heap.size) (h9:w9.heap.size≤w1.heap.size) (h1:w1.heap.size≤w2.heap.size):R18 (ua rs w9 w2) w2 db R:=
 h.up (λk hk=>zm1 h9 h1 hk) (λk hk=>by
  rcases hk with e|e
  ·have:=h0 k e;omega
  ·exact e.2)
theorem zkn (R:RDk) (hg:R.gone=false) (hk:k≤R.blocks.length) (h:(opnR18 R R.all k).2.1≠0):R.opened=((opnR18 R R.all k).1,(opnR18 R R.all k).2.1):=by
 have he:=zd8 h R.blocks.length hk;unfold RDk.opened;rw[if_neg (by simp[hg]),he,if_pos h]
theorem zn5 (h:zm rs W w1) (ht:zm (λq=>q=sb) w1 w2) (hsb:W.heap.size≤sb):zm rs W w2:=
 ⟨ht.os.trans h.os,ht.tape.trans h.tape,ht.output.trans h.output,Nat.le_trans h.size ht.size,λk hk hn=>(ht.block k (Nat.lt_of_lt_of_le hk h.size) (by omega)).trans (h.block k hk hn)⟩
theorem zhm (r:Int × ye):∀L:List (Int × ye),(jp L r).length≤L.length+1
 | []=>by simp[jp]
 | y :: t=>by
  have ih:=zhm r t;rw[Xa]
  split
  ·simp
  ·split
   ·simp
   ·simp only[List.length_cons];omega
theorem zbn (f:Nat→List Int) (N:Nat):∀n,(openR zo f N n).length≤n
 | 0=>by unfold openR;simp
 | n+1=>by
  have ih:=zbn f N n;unfold openR
  split
  ·omega
  ·split
   ·split
    ·omega
    ·exact Nat.le_trans (zhm _ _) (by omega)
   ·omega
theorem S19.addCall {w0:Nat} (h:S19 rss w sb db L next broken) (hs:L.Pairwise λa b=>a.1<b.1) (hl:L.length≤100000) {k:Int} {r:ye} {p:Option Addr} {n c:Nat} (hp:jy (λq=>w0≤q∧q<w.heap.size) w (.slice p n c) r.2) (hlow:∀q,rss q→q<w0) (hz:w0≤w.heap.size) (hg:w.grownBy w' none):Calls Tryz.prog 112 #[.pointer (some ⟨sb,0,none⟩),.agg #[.int .i64 k,.string (ofB r.1),.slice p n c]] w' λe w2=>e = .returned (.tuple #[])∧∃rss',S19 rss' w2 sb db (jp L (k,r)) next broken∧(∀q,rss' q→rss q∨(w0≤q∧q<w2.heap.size))∧zm (λq=>q=sb) w w2:=by
 obtain⟨lv,ms,hA⟩:=h.kept hg;have hA':jb (λq=>rss q∨(w0≤q∧q<w.heap.size)) w' sb db lv ms L next broken:=⟨hA.box,hA.row,hA.ok.mono (λq hq=>⟨Or.inl hq.1,hq.2⟩),Or.inl hA.rsb,λg e=>Or.inl (hA.rlv g e),λq hq=>by
  have:=hg.size
  rcases hq with e|e
  ·exact hA.lt q e
  ·omega⟩
 refine(radd hA' hs hl (rm:=⟨k,r.1,p,n,c⟩) (rq:=(k,r)) ⟨rfl,rfl,(hp.turn λq hq=>hg.block q hq.2 (by simp)).mono λq hq=>⟨Or.inr hq,λe=>?_,λe=>?_⟩⟩).mono ?_
 ·have:=hlow sb hA.rsb;omega
 ·have:=hlow q (hA.rlv q e);omega
 ·rintro e w2 ⟨rfl,h1,h2⟩
  refine⟨rfl,_,h1,λq hq=>?_,(vh hg).trans h2⟩
  have:=hg.size;have:=h2.size
  rcases hq with (e|e)|e
  ·exact Or.inl e
  ·exact Or.inr ⟨e.1,by omega⟩
  ·exact Or.inr ⟨by omega,e.2⟩
set_option maxRecDepth 100000 in
theorem zku (h:R18 rs W db R) (hg:R.gone=false) (hf:yf R+R.blocks.length<1000000):Calls Tryz.prog 37 #[.pointer (some ⟨db,0,none⟩)] W (OpnR rs W db R):=by
 obtain⟨i0,z0,by0,hi,hz0,hz1,hz2,hz3,hz4⟩:=infoStr;have H:=zd h;obtain⟨bv,bs,hA⟩:=h;obtain⟨pd,cd,rfl,-,-⟩:=hA.form;obtain⟨c0,c1,c2,c3,y⟩:=hA.cells;rw[hg] at c3;have hn4:=hA.n;have HOKX:Hid (∀x∈R.all,x.length=256∧BL x):=(λx hx=>by
  unfold RDk.all at hx;obtain⟨i,hi,rfl⟩:=List.mem_map.1 hx;have hi:=List.mem_range.1 hi;unfold RDk.bytes;rw[List.getElem?_eq_getElem hi]
  exact zh8 (hA.ok _ (List.getElem_mem hi)))
 obtain⟨N,hN⟩:∃N,N=R.blocks.length:=⟨_,rfl⟩;have HN:Hid (R.all.length=N):=(show _=_ from by rw[zcw,hN])
 have HRD:Hid (∀w,W.grownBy w none→∀k:Nat,(hk:k<R.all.length)→Calls Tryz.prog 107 #[.pointer (some ⟨db,0,none⟩),.int .i64 (k:Int)] w λe w'=>e = .returned (.tuple #[.string (ofB R.all[k]),.int .i64 0])∧w'=w):=(λw hw k hk=>by
  have hm:R.mayE (k:Int)=0:=by
   unfold RDk.mayE;rw[if_neg (by simp[hg]),if_neg (by rw[zcw] at hk;omega)]
  have:=rread (H.out.kept hw) (k:Int);rw[hm,if_pos rfl,Int.toNat_natCast,←zgl R hk] at this
  exact this)
 have HP:Hid (∀e w',OpnR rs W db R e w'→OpnR rs W db R e w'):=(λ_ _ h=>h)
 rw[←hN] at c0 hn4 hf;have HNB:=zd hN;clear hA hN
 go_enter Tryz.func37,Tryz.ntmps37
 go_upto_region 5 with fail
 go_loopw [4,5] (λlo i wr=>∃(k:Nat) (p:Option Addr) (n c:Nat),k≤N∧i = .int .i64 k∧lo = .slice p n c∧W.grownBy wr none∧yl wr 9 1 zjo (.slice p n c) (R.all.take k)∧∀g,(Value.slice p n c).ownBlock=some g→W.heap.size≤g) (λ_ i _=>N-(intOf i).toNat)
 case atStart=>exact⟨0,none,0,0,by omega,rfl,rfl,zi _,⟨rfl,Or.inl ⟨rfl,rfl⟩⟩,λg hg=>by simp[Value.ownBlock] at hg⟩
 case round=>
  obtain⟨k,p,n,c,hk,rfl,rfl,hgr,hrow,hown⟩:=hrel;have HG:=zd hgr;have w0:=hgr.cell c0 (by simp)
  have hnk:n=k:=by
   obtain⟨p',c',e,-,-⟩:=hrow.form
   injection e with _ e2 _
   rw[e2,List.length_take,HN.out];omega
  subst hnk;have HR:=zd hrow;have HO:=zd hown;clear hgr hrow hown
  by_cases hkN:n<N
  ·have hkl:n<R.all.length:=by rw[HN.out];exact hkN
   have HC:=zd (HRD.out wr HG.out n hkl);have HTK:Hid (R.all.take (n+1)=R.all.take n ++ [R.all[n]]):=(show _=_ from List.take_succ_eq_append_getElem hkl)
   have HLN:Hid ((R.all.take n).length=n):=(show _=_ from by rw[List.length_take,HN.out];omega)
   generalize R.all[n]=x at *
   go_wp2_with (first
    | (go_at_call 107;refine HC.out.mono ?_;rintro e w5 ⟨rfl,h5⟩;obtain rfl:wr=w5:=h5.symm)
    | (at_builtin;refine xn (E:=9) (sz:=1) (enc:=zjo) (v:=.slice p n c) (l:=R.all.take n) (m:=[x]) _ rfl _ _ 83 rfl zjp zqa i0 z0 by0 Tryz.underlying83 hi hz0 hz1 hz2 hz3 (by decide) hz4 rfl (HR.out.grown (ze _ _ none) (by simp)) rfl (zqf _ x) (by rw[HLN.out];simp;omega) (n+1) (by rw[HLN.out];simp) ?_;intro p9 c9 w9 hap;have HAP:=zd hap;clear hap))
   refine⟨⟨n+1,p9,n+1,c9,by omega,by simp,rfl,xp (zh HG.out (ze _ _ none)) HAP.out.2.1 HO.out,by rw[HTK.out];exact HAP.out.1,λg hg=>?_⟩,by simp[intOf];omega⟩
   rcases HAP.out.2.2 with e|e
   ·exact HO.out g (e ▸ hg)
   ·rw[hg] at e
    injection e with e
    have:=HG.out.size;simp at e;omega
  ·obtain rfl:n=N:=by omega
   have HX:Hid (Xt wr (.slice p n c) R.all):=(show Xt _ _ _ from by
    have h1:=HR.out;rw[List.take_of_length_le (by rw[HN.out];exact Nat.le_refl _)] at h1
    exact zoj h1 HOKX.out (by rw[HN.out];exact hn4))
   have HLS:Hid (∀g,(Value.slice p n c).ownBlock=some g→g<wr.heap.size):=(λg hg=>yl.lt HR.out hg)
   go_upto_region 12 with fail
   clear HR w0;have HRS:Hid (∀k,rs k→k<W.heap.size):=(λk hk=>H.out.lt hk)
   have hga:=ze wr (.cells #[.pointer (some ⟨db,0,none⟩),.slice none 0 0,.int .i64 1,.int .i64 0] 193) none;have hna:=heap_alloc_new wr (.cells #[.pointer (some ⟨db,0,none⟩),.slice none 0 0,.int .i64 1,.int .i64 0] 193);have HX9:=zd (HX.out.grown hga);have HG9:=zd (zh HG.out hga);have HSBL:Hid (W.heap.size≤wr.heap.size):=(show _≤_ from HG.out.size)
   generalize wr.alloc (.cells #[.pointer (some ⟨db,0,none⟩),.slice none 0 0,.int .i64 1,.int .i64 0] 193)=w9 at *;generalize wr.heap.size=sb at *;have HNA:=zd hna;have HSB9:Hid (sb<w9.heap.size):=(show _<_ from (Array.getElem?_eq_some_iff.1 hna).1)
   clear hga hna HX HG;have HR9:Hid (∀k,rs k→k<w9.heap.size):=(λk hk=>Nat.lt_of_lt_of_le (HRS.out k hk) HG9.out.size)
   have HT9:Hid (∀w',zm rs w9 w'→Xt w' (.slice p n c) R.all):=(λw' ht=>HX9.out.turn (λg off p' n' c' e e2 hq=>by
    injection e with e3
    have h1:=HRS.out g hq;have h2:=HO.out g (by rw[e3,e2];rfl)
    omega) ht)
   have HR0:Hid (R18 (ua rs w9 w9) w9 db (opnR18 R R.all 0).1):=(show R18 _ _ _ _ from (H.out.kept HG9.out).new (zi _))
   go_loopw [9,10] (λsc i w=>∃k:Nat,k≤n∧i = .int .i64 k∧sc = .bool (opnR18 R R.all k).2.2∧(opnR18 R R.all k).2.1=0∧R18 (ua rs w9 w) w db (opnR18 R R.all k).1∧yf (opnR18 R R.all k).1≤yf R+k∧zm rs w9 w) (λ_ i _=>n-(intOf i).toNat)
   case atStart=>exact⟨0,by omega,rfl,rfl,rfl,HR0.out,Nat.le_refl _,zm.refl _ _⟩
   case round=>
    clear HR0;obtain⟨k,hk2,rfl,rfl,h0,hr,ho,ht⟩:=hrel;have HB:=zd (HT9.out wr ht);have HT:=zd ht;have HRK:=zd hr;have H0:=zd h0;have HOP:=zd ho;clear hr h0 ho ht
    by_cases hkn:k<n
    ·have hkl:k<R.all.length:=by rw[HN.out];exact hkn
     obtain⟨g,off,rfl,cx⟩:∃g off,p=some ⟨g,off,none⟩∧wr.cell? ⟨g,off+k,none⟩=some (.string (ofB R.all[k])):=by
      obtain⟨p',cap',e,h1⟩:=HB.out.ex
      injection e with e1
      subst e1
      rcases h1 with e0|⟨b,off,rfl,h1⟩
      ·rw[e0] at hkl;simp at hkl
      ·exact⟨b,off,rfl,h1 k hkl⟩
     have hgl:=xi cx;have hXk:=HOKX.out _ (List.getElem_mem hkl);have hfx:fX R.all k=R.all[k]:=zhy hkl;have hpa:=zbt hXk.1 hXk.2 wr;have HEM:Hid (∀w,Calls Tryz.prog 109 #[.string (ofB R.all[k])] w λe w'=>e = .returned (.bool (decide (R.all[k]=zr)))∧w'=w):=(λw=>zkt hXk.1 hXk.2 w)
     have HWR:Hid (∀w,wr.grownBy w none→Calls Tryz.prog 44 #[.pointer (some ⟨db,0,none⟩),.int .i64 (k:Int),.string ⟨#[]⟩] w λe w'=>e = .returned (.int .i64 ((opnR18 R R.all k).1.writeV k []))∧R18 (ua rs w9 w') w' db ((opnR18 R R.all k).1.written k [])∧zm rs w9 w'):=(λw hw=>by
      have h1:=HRK.out.upn hw HR9.out HT.out.size;refine(zhd h1 (k:Int) ⟨#[]⟩ (by show(0:Nat)≤_;omega) (by have:=HOP.out;omega)).mono ?_
      rintro e w' ⟨rfl,h2,h3⟩
      exact⟨rfl,h2.upw HR9.out (Nat.le_trans HT.out.size hw.size) h3.size,qo (HT.out.trans (vh hw)) h3⟩)
     have HCL:Hid ((saidP zo R.all[k]).isSome=true∨R.all[k]=zr→opnR18 R R.all (k+1)=opnR18 R R.all k):=(λhc=>zal H0.out (by rw[hfx];exact hc))
     have HSC:Hid (¬((saidP zo R.all[k]).isSome=true∨R.all[k]=zr)→opnR18 R R.all (k+1)=((opnR18 R R.all k).1.written k [],(opnR18 R R.all k).1.writeV k [],true)):=(λhc=>zam H0.out (by rw[hfx];exact hc))
     have HMO:Hid (∀w,wr.grownBy w none→opnR18 R R.all (k+1)=opnR18 R R.all k→∃k':Nat,k'≤n∧(k:Int)+1=(k':Int)∧(opnR18 R R.all k).2.2=(opnR18 R R.all k').2.2∧(opnR18 R R.all k').2.1=0∧R18 (ua rs w9 w) w db (opnR18 R R.all k').1∧yf (opnR18 R R.all k').1≤yf R+k'∧zm rs w9 w):=(λw hw he=>⟨k+1,by omega,by simp,by rw[he],by rw[he];exact H0.out,by rw[he];exact HRK.out.upn hw HR9.out HT.out.size,by rw[he];have:=HOP.out;omega,HT.out.trans (vh hw)⟩)
     unfold partV at hpa;generalize R.all[k]=x at *
     cases hsd:saidP zo x with
     | some pp=>
      obtain⟨pk,pi,pc,pb⟩:=pp;rw[hsd] at hpa;simp only at hpa;have hk1:=(yr hsd).1.k1;simp only at hk1;have hz:(pk == (0:Int))=false:=by simp;omega
      have HPA:=zd hpa;have HM2:=zd (λw hw=>HMO.out w hw (HCL.out (Or.inl (by rw[hsd];rfl))))
      clear hpa hsd hfx
      go_wp2_with (go_at_call 108;refine HPA.out.mono ?_;rintro e w5 ⟨rfl,hg5⟩;have HG5:=zd hg5;clear hg5)
      obtain⟨k',f1,f2,f3,f4,f5,f6,f7⟩:=HM2.out _ HG5.out
      exact⟨⟨k',f1,by rw[f2],by rw[f3],f4,f5,f6,f7⟩,by simp[intOf];omega⟩
     | none=>
      rw[hsd] at hpa;simp only at hpa;have HPA:=zd hpa
      by_cases hzx:x=zr
      ·have hdz:decide (x=zr)=true:=by simpa using hzx
       have HE2:Hid (∀w,Calls Tryz.prog 109 #[.string (ofB x)] w λe w'=>e = .returned (.bool true)∧w'=w):=(λw=>by rw[←hdz];exact HEM.out w)
       have HM2:=zd (λw hw=>HMO.out w hw (HCL.out (Or.inr hzx)))
       clear hpa hsd hfx hzx hdz HEM
       go_wp2_with (first
        | (go_at_call 108;refine HPA.out.mono ?_;rintro e w5 ⟨rfl,hg5⟩;have cx5:=hg5.cell cx (by simp);have HG5:=zd hg5;clear hg5)
        | (go_at_call 109;refine(HE2.out _).mono ?_;rintro e w6 ⟨rfl,h5⟩;obtain rfl:w5=w6:=h5.symm))
       obtain⟨k',f1,f2,f3,f4,f5,f6,f7⟩:=HM2.out _ HG5.out
       exact⟨⟨k',f1,by rw[f2],by rw[f3],f4,f5,f6,f7⟩,by simp[intOf];omega⟩
      ·have hdz:decide (x=zr)=false:=by simpa using hzx
       have HE2:Hid (∀w,Calls Tryz.prog 109 #[.string (ofB x)] w λe w'=>e = .returned (.bool false)∧w'=w):=(λw=>by rw[←hdz];exact HEM.out w)
       have HS2:=zd (HSC.out (λe=>e.elim (λe2=>by rw[hsd] at e2;cases e2) hzx))
       clear hpa hsd hfx hzx hdz HEM;obtain⟨ev,hev⟩:∃ev,ev=(opnR18 R R.all k).1.writeV k []:=⟨_,rfl⟩;rw[←hev] at HWR HS2;have HEV:Hid ((opnR18 R R.all (k+1)).2.1=ev):=(show _=_ from by rw[HS2.out])
       clear hev
       by_cases he:ev=0
       ·subst he
        go_wp2_with (first
         | (go_at_call 108;refine HPA.out.mono ?_;rintro e w5 ⟨rfl,hg5⟩;have cx5:=hg5.cell cx (by simp);have HG5:=zd hg5;clear hg5)
         | (go_at_call 109;refine(HE2.out _).mono ?_;rintro e w6 ⟨rfl,h5⟩;obtain rfl:w5=w6:=h5.symm)
         | (go_at_call 44;refine(HWR.out _ HG5.out).mono ?_;rintro e w7 ⟨rfl,hr7,ht7⟩;have HR7:=zd hr7;have HT7:=zd ht7;clear hr7 ht7))
        exact⟨⟨k+1,by omega,by simp,by rw[HS2.out],HEV.out,by rw[HS2.out];exact HR7.out,by rw[HS2.out];exact Nat.le_trans (za6 _ _ _) (by have:=HOP.out;omega),HT7.out⟩,by simp[intOf];omega⟩
       ·have HER:=zd (zkn R hg (by rw[←HNB.out];omega:k+1≤R.blocks.length) (by rw[HEV.out];exact he))
        go_wp2_with (first
         | (go_at_call 108;refine HPA.out.mono ?_;rintro e w5 ⟨rfl,hg5⟩;have cx5:=hg5.cell cx (by simp);have HG5:=zd hg5;clear hg5)
         | (go_at_call 109;refine(HE2.out _).mono ?_;rintro e w6 ⟨rfl,h5⟩;obtain rfl:w5=w6:=h5.symm)
         | (go_at_call 44;refine(HWR.out _ HG5.out).mono ?_;rintro e w7 ⟨rfl,hr7,ht7⟩;have HR7:=zd hr7;have HT7:=zd ht7;clear hr7 ht7))
        go_ret2
        refine⟨(vh HG9.out).trans HT7.out,Or.inl ⟨by rw[HER.out];show(opnR18 R R.all (k+1)).2.1≠0;rw[HEV.out];exact he,by rw[HER.out];show _=Ending.returned (.tuple #[.pointer none,.int .i64 (opnR18 R R.all (k+1)).2.1]);rw[HEV.out];rfl,?_⟩⟩
        rw[HER.out]
        show R18 _ _ _ (opnR18 R R.all (k+1)).1
        rw[HS2.out]
        exact HR7.out.up (λq hq=>hq.imp id λe=>⟨by have:=HG9.out.size;omega,e.2⟩) (λq hq=>by
         rcases hq with e|e
         ·have:=HRS.out q e;have:=HG9.out.size;have:=HT7.out.size;omega
         ·exact e.2)
    ·obtain rfl:k=n:=by omega
     have HRB:Hid (R.opened=if (opnR18 R R.all k).2.2=true then ((opnR18 R R.all k).1.synced,(opnR18 R R.all k).1.syncV) else ((opnR18 R R.all k).1,0)):=(show _=_ from by
      unfold RDk.opened;rw[if_neg (by simp[hg]),←HNB.out,if_neg (λe=>e H0.out)])
     have HSY:=zd (rsync HRK.out);have HFF:Hid (∀w',wr.heap.size≤w'.heap.size→∀RR,R18 (ua rs w9 wr) w' db RR→R18 (ua rs W w') w' db RR):=(λw' hz RR h=>h.up (λq hq=>hq.imp id λe=>⟨by have:=HG9.out.size;omega,by omega⟩) (λq hq=>by
      rcases hq with e|e
      ·have:=HRS.out q e;have:=HG9.out.size;have:=HT.out.size;omega
      ·exact e.2))
     generalize hbb:(opnR18 R R.all k).2.2=bb at *;clear hbb
     go_upto_if 82 with fail
     go_cut [16] from 83 to 87 (λ_ wx=>R.opened.2=0∧wr.heap.size≤wx.heap.size∧R18 (ua rs w9 wr) wx db R.opened.1∧zm rs w9 wx)
     case first=>
      cases bb
      ·have HRB2:Hid (R.opened=((opnR18 R R.all k).1,0)):=(show _=_ from by rw[HRB.out,if_neg (by simp)])
       go_wp2
       go_meet
       case rel=>exact⟨by rw[HRB2.out],Nat.le_refl _,by rw[HRB2.out];exact HRK.out,HT.out⟩
      ·have HRB2:Hid (R.opened=((opnR18 R R.all k).1.synced,(opnR18 R R.all k).1.syncV)):=(show _=_ from by rw[HRB.out,if_pos rfl])
       obtain⟨ev,hev⟩:∃ev,ev=(opnR18 R R.all k).1.syncV:=⟨_,rfl⟩;rw[←hev] at HSY HRB2;clear hev
       by_cases he:ev=0
       ·subst he
        go_wp2_with (go_at_call 110;refine HSY.out.mono ?_;rintro e w7 ⟨rfl,hr7,ht7⟩;have HR7:=zd hr7;have HT7:=zd ht7;clear hr7 ht7)
        go_meet
        case rel=>exact⟨by rw[HRB2.out],HT7.out.size,by rw[HRB2.out];exact HR7.out,qo HT.out HT7.out⟩
       ·go_wp2_with (go_at_call 110;refine HSY.out.mono ?_;rintro e w7 ⟨rfl,hr7,ht7⟩;have HR7:=zd hr7;have HT7:=zd ht7;clear hr7 ht7)
        go_ret2
        exact⟨(vh HG9.out).trans (qo HT.out HT7.out),Or.inl ⟨by rw[HRB2.out];exact he,by rw[HRB2.out];rfl,by rw[HRB2.out];exact HFF.out _ HT7.out.size _ HR7.out⟩⟩
     case rest=>
      obtain⟨hop,hsz,hrd,htd⟩:=hcut;have HOP0:=zd hop;obtain⟨rsd,hrsd⟩:∃rsd,rsd=ua rs w9 wr:=⟨_,rfl⟩;have HRSD:Hid (∀q,rsd q→rs q∨(w9.heap.size≤q∧q<wc.heap.size)):=(λq hq=>by
       rw[hrsd] at hq
       exact hq.imp id λe=>⟨e.1,by omega⟩)
      rw[←hrsd] at hrd;clear hrsd;have HRD2:=zd hrd;have HTD:=zd htd;have HB3:=zd (HT9.out wc htd);have HSB3:Hid (wc.heap[sb]? = some (.cells #[.pointer (some ⟨db,0,none⟩),.slice none 0 0,.int .i64 1,.int .i64 0] 193 (0,0))):=(show _=_ from (htd.block sb (Array.getElem?_eq_some_iff.1 HNA.out).1 (λe=>by have:=HRS.out sb e;have:=HSBL.out;omega)).trans HNA.out)
      clear hop hsz hrd htd HB HT HRK H0 HOP HRB HSY HNA HT9 HX9;generalize hwc:wc=w10 at *;clear hwc;have HS0:Hid (S19 (λq=>q=sb) w10 sb db (openR zo (fX R.all) k 0) (nextR zo (fX R.all) 0) 0):=(show S19 _ _ _ _ _ _ _ from ⟨.slice none 0 0,[],HSB3.out,⟨rfl,Or.inl ⟨rfl,rfl⟩⟩,.nil,rfl,λg hg=>by simp[Value.ownBlock] at hg,λq hq=>by rw[hq];exact(Array.getElem?_eq_some_iff.1 HSB3.out).1⟩)
      go_upto_region 25 with fail
      go_loopw [17] (λi w=>∃(j:Nat) (rss:Nat→Prop),j≤k∧i = .int .i64 j∧S19 rss w sb db (openR zo (fX R.all) k j) (nextR zo (fX R.all) j) 0∧(∀q,rss q→q=sb∨(w10.heap.size≤q∧q<w.heap.size))∧zm (λq=>q=sb) w10 w) (λi _=>k-(intOf i).toNat)
      case atStart=>exact⟨0,_,by omega,rfl,HS0.out,λq hq=>Or.inl hq,zm.refl _ _⟩
      case round=>
       clear HS0 HSB3;obtain⟨j,rss,hj,rfl,hs,hrss,ht⟩:=hrel;have HB4:Hid (Xt wr (.slice p k c) R.all):=(show Xt _ _ _ from HB3.out.turn (λg off p' n' c' e e2 hq=>by
        injection e with e3
        have h2:=HLS.out g (by rw[e3,e2];rfl)
        omega) ht)
       have HT4:=zd ht;have HS4:=zd hs;have HRSS:=zd hrss;obtain⟨q1,q2,q3⟩:=hs.cells;have hnx:=zd0 (fX R.all) j;clear hs hrss ht
       by_cases hjk:j<k
       ·have hkl:j<R.all.length:=by rw[HN.out];exact hjk
        obtain⟨g,off,rfl,cx⟩:∃g off,p=some ⟨g,off,none⟩∧wr.cell? ⟨g,off+j,none⟩=some (.string (ofB R.all[j])):=by
         obtain⟨p',cap',e,h1⟩:=HB4.out.ex
         injection e with e1
         subst e1
         rcases h1 with e0|⟨b,off,rfl,h1⟩
         ·rw[e0] at hkl;simp at hkl
         ·exact⟨b,off,rfl,h1 j hkl⟩
        have hgl:=xi cx;have hXk:=HOKX.out _ (List.getElem_mem hkl);have hfx:fX R.all j=R.all[j]:=zhy hkl;have hpa:=zbt hXk.1 hXk.2 wr;have hN1:nextR zo (fX R.all) (j+1)=match saidP zo R.all[j] with
          | none=>max (nextR zo (fX R.all) j) 1
          | some p=>max (nextR zo (fX R.all) j) (p.k+1):=by
         conv=>lhs;unfold nextR
         rw[hfx]
         cases saidP zo R.all[j] <;> rfl
        have hO1:openR zo (fX R.all) k (j+1)=match saidP zo R.all[j] with
          | none=>openR zo (fX R.all) k j
          | some p=>if p.index=0 then match findR zo (fX R.all) k p.k p.count p.count with
            | none=>openR zo (fX R.all) k j
            | some r=>jp (openR zo (fX R.all) k j) (p.k,r)
           else openR zo (fX R.all) k j:=by
         conv=>lhs;unfold openR
         rw[hfx]
         cases saidP zo R.all[j] <;> rfl
        have HKEEP:Hid (∀w5,wr.grownBy w5 none→∀nn,nextR zo (fX R.all) (j+1)=nn→openR zo (fX R.all) k (j+1)=openR zo (fX R.all) k j→∃rss,S19 rss (w5.setCell ⟨sb,2,none⟩ (.int .i64 nn)) sb db (openR zo (fX R.all) k (j+1)) (nextR zo (fX R.all) (j+1)) 0∧(∀q,rss q→q=sb∨(w10.heap.size≤q∧q<(w5.setCell ⟨sb,2,none⟩ (.int .i64 nn)).heap.size))∧zm (λq=>q=sb) w10 (w5.setCell ⟨sb,2,none⟩ (.int .i64 nn))):=(λw5 hg5 nn hnn hoo=>by
         have hz:(w5.setCell ⟨sb,2,none⟩ (.int .i64 nn)).heap.size=w5.heap.size:=by simp[World.setCell]
         refine⟨rss,by rw[hnn,hoo];exact(HS4.out.kept hg5).nextSet nn,λq hq=>(HRSS.out q hq).imp id λe=>⟨e.1,by rw[hz];have:=hg5.size;omega⟩,(HT4.out.trans (vh hg5)).trans (yh _ _ _ _)⟩)
        unfold partV at hpa;generalize hnxx:nextR zo (fX R.all) j=nx at *;have HNXX:=zd hnxx;clear hnxx hfx;generalize R.all[j]=x at *
        cases hsd:saidP zo x with
        | none=>
         rw[hsd] at hpa hN1 hO1;simp only at hpa hN1 hO1;have HPA:=zd hpa;have HK2:=zd (λw5 hg5=>HKEEP.out w5 hg5 _ hN1 hO1)
         clear hpa hsd hN1 hO1 HKEEP
         go_wp2_with (go_at_call 108;refine HPA.out.mono ?_;rintro e w5 ⟨rfl,hg5⟩;have q5:=hg5.cell q1 (by simp);have f5:w5.frozen? ⟨sb,2,none⟩=false:=(HS4.out.kept hg5).cells.2.1 2;have HG5:=zd hg5;clear hg5)
         obtain⟨rss',s1,s2,s3⟩:=HK2.out w5 HG5.out
         exact⟨⟨j+1,rss',by omega,by simp,s1,s2,s3⟩,by simp[intOf];omega⟩
        | some pp=>
         obtain⟨pk,pi,pc,pb⟩:=pp;rw[hsd] at hpa hN1 hO1;simp only at hpa hN1 hO1;have hk1:=(yr hsd).1.k1;have hk2:=(yr hsd).1.k2;simp only at hk1 hk2;have HPA:=zd hpa
         by_cases hpi:pi=0
         ·subst hpi
          rw[if_pos rfl] at hO1;have hcc:=(yr hsd).1.c2;simp only at hcc;have HFI:Hid (∀w5,wr.grownBy w5 none→Calls Tryz.prog 111 #[.slice (some ⟨g,off,none⟩) k c,.int .i64 pk,.int .i64 (pc:Int)] (w5.setCell ⟨sb,2,none⟩ (.int .i64 (max nx (pk+1)))) (zc7 (w5.setCell ⟨sb,2,none⟩ (.int .i64 (max nx (pk+1)))) pk (findR zo (fX R.all) k pk pc pc))):=(λw5 hg5=>by
           have hb:Xt (w5.setCell ⟨sb,2,none⟩ (.int .i64 (max nx (pk+1)))) (.slice (some ⟨g,off,none⟩) k c) R.all:=HB4.out.turn (λg off p' n' c' e e2 hq=>by
            injection e with e3
            have h2:=HLS.out g (by rw[e3,e2];rfl)
            omega) ((vh hg5).trans (yh _ _ _ _))
           have:=znf hb hk1 pc hcc;rw[HN.out] at this
           exact this)
          have HK3:=zd HKEEP.out;have HN2:=zd hN1;have HO2:=zd hO1;have HCNT:=zd hcc;clear hpa hsd hN1 hO1 HKEEP hcc;generalize hfr:findR zo (fX R.all) k pk pc pc=FR at *;clear hfr
          cases FR with
          | none=>
           have hO3:=HO2.out;simp only at hO3;have HO3:=zd hO3;clear hO3 HO2
           go_wp2_with (first
            | (go_at_call 108;refine HPA.out.mono ?_;rintro e w5 ⟨rfl,hg5⟩;have q5:=hg5.cell q1 (by simp);have f5:w5.frozen? ⟨sb,2,none⟩=false:=(HS4.out.kept hg5).cells.2.1 2;have HG5:=zd hg5;clear hg5)
            | (go_at_call 111;refine(HFI.out w5 HG5.out).mono ?_;rintro e w6 ⟨hg6,rfl⟩;have HG6:=zd hg6;clear hg6))
           obtain⟨rss',s1,s2,s3⟩:=HK3.out w5 HG5.out _ HN2.out HO3.out;have hgx:=zh HG6.out (ze w6 (.cells #[.int .i64 0,.string ⟨#[]⟩,.slice none 0 0] 198) none)
           exact⟨⟨j+1,rss',by omega,by simp,s1.kept hgx,λq hq=>(s2 q hq).imp id λe=>⟨e.1,Nat.lt_of_lt_of_le e.2 hgx.size⟩,s3.trans (vh hgx)⟩,by simp[intOf];omega⟩
          | some r=>
           have hO3:=HO2.out;simp only at hO3;have HO3:=zd hO3;clear hO3 HO2;have HLO:Hid ((openR zo (fX R.all) k j).length≤100000):=(show _≤_ from by have:=zbn (fX R.all) k j;omega)
           have HAD:Hid (∀w5 w6 w7,wr.grownBy w5 none→(w5.setCell ⟨sb,2,none⟩ (.int .i64 (max nx (pk+1)))).grownBy w6 none→w6.grownBy w7 none→∀p9 n9 c9,jy (λq=>w5.heap.size≤q∧q<w6.heap.size) w6 (.slice p9 n9 c9) r.2→Calls Tryz.prog 112 #[.pointer (some ⟨sb,0,none⟩),.agg #[.int .i64 pk,.string (ofB r.1),.slice p9 n9 c9]] w7 λe w8=>e = .returned (.tuple #[])∧∃rss,S19 rss w8 sb db (openR zo (fX R.all) k (j+1)) (nextR zo (fX R.all) (j+1)) 0∧(∀q,rss q→q=sb∨(w10.heap.size≤q∧q<w8.heap.size))∧zm (λq=>q=sb) w10 w8):=(λw5 w6 w7 hg5 hg6 hg7 p9 n9 c9 hpo=>by
            have hz:(w5.setCell ⟨sb,2,none⟩ (.int .i64 (max nx (pk+1)))).heap.size=w5.heap.size:=by simp[World.setCell]
            have hz6:=hg6.size;rw[hz] at hz6;have hs6:=((HS4.out.kept hg5).nextSet (max nx (pk+1))).kept hg6;have hlw:∀q,rss q→q<w5.heap.size:=λq hq=>Nat.lt_of_lt_of_le (by
             rcases HRSS.out q hq with e|e
             ·rw[e];exact q3
             ·exact e.2) hg5.size
            rw[HO3.out,HN2.out];refine(hs6.addCall (zak (C:=zo) (fX R.all) k j).srt HLO.out hpo hlw hz6 hg7).mono ?_;rintro e w8 ⟨rfl,rss',s1,s2,s3⟩;refine⟨rfl,rss',s1,λq hq=>?_,(((HT4.out.trans (vh hg5)).trans (yh _ _ _ _)).trans (vh hg6)).trans s3⟩
            have h10:=HT4.out.size;have h15:=hg5.size;have h68:=s3.size
            rcases s2 q hq with e|e
            ·exact(HRSS.out q e).imp id λe=>⟨e.1,by omega⟩
            ·exact Or.inr ⟨by omega,e.2⟩)
           go_wp2_with (first
            | (go_at_call 108;refine HPA.out.mono ?_;rintro e w5 ⟨rfl,hg5⟩;have q5:=hg5.cell q1 (by simp);have f5:w5.frozen? ⟨sb,2,none⟩=false:=(HS4.out.kept hg5).cells.2.1 2;have HG5:=zd hg5;clear hg5)
            | (go_at_call 111;refine(HFI.out w5 HG5.out).mono ?_;rintro e w6 ⟨hg6,bv,rfl,hpn⟩;have hpo:jy (λq=>w5.heap.size≤q∧q<w6.heap.size) w6 bv r.2:=zfw hpn (λq hq=>⟨by have:=hpn.2 q hq;simpa[World.setCell] using this,yl.lt hpn.1 hq⟩);obtain⟨p9,c9,hbv,-⟩:=id hpo;subst hbv;have HPO:=zd hpo;have HG6:=zd hg6;clear hg6 hpo hpn)
            | (go_at_call 112;refine(HAD.out w5 w6 _ HG5.out HG6.out (ze _ _ none) _ _ _ HPO.out).mono ?_;rintro e w8 ⟨rfl,h8⟩;have H8:=zd h8;clear h8))
           obtain⟨rss',s1,s2,s3⟩:=H8.out
           exact⟨⟨j+1,rss',by omega,by simp,s1,s2,s3⟩,by simp[intOf];omega⟩
         ·rw[if_neg (by simpa using hpi)] at hO1
          have HK2:=zd (λw5 hg5=>HKEEP.out w5 hg5 _ hN1 hO1)
          have hpz:(decide ((pi:Int)=0))=false:=by simp;omega
          clear hpa hsd hN1 hO1 HKEEP
          go_wp2_with (go_at_call 108;refine HPA.out.mono ?_;rintro e w5 ⟨rfl,hg5⟩;have q5:=hg5.cell q1 (by simp);have f5:w5.frozen? ⟨sb,2,none⟩=false:=(HS4.out.kept hg5).cells.2.1 2;have HG5:=zd hg5;clear hg5)
          obtain⟨rss',s1,s2,s3⟩:=HK2.out w5 HG5.out
          exact⟨⟨j+1,rss',by omega,by simp,s1,s2,s3⟩,by simp[intOf];omega⟩
       ·obtain rfl:j=k:=by omega
        have HFIN:Hid (zm rs W wr∧R.opened.2=0∧qg rsd rss wr sb db R.opened.1 (openR zo (fX R.all) j j) (nextR zo (fX R.all) j) 0∧(∀q,rsd q→ua rs W wr q)∧∀q,rss q→W.heap.size≤q∧q<wr.heap.size):=(by
         have h9:=HG9.out.size;have h10:=HTD.out.size;have hz:=HT4.out.size;have hsb:=HSBL.out;have hsb9:=HSB9.out;have hns:∀q,rsd q→q≠sb:=λq hq e=>by
          rcases HRSD.out q hq with e2|e2
          ·have:=HRS.out q e2;omega
          ·omega
         refine⟨zn5 ((vh HG9.out).trans HTD.out) HT4.out hsb,HOP0.out,⟨HRD2.out.same (λq hq=>HT4.out.block q (HRD2.out.lt hq) (hns q hq)) hz,HS4.out,λq hq h2=>?_⟩,λq hq=>?_,λq hq=>?_⟩
         ·rcases HRSS.out q h2 with e|e
          ·exact hns q hq e
          ·rcases HRSD.out q hq with e2|e2
           ·have:=HRS.out q e2;omega
           ·omega
         ·rcases HRSD.out q hq with e2|e2
          ·exact Or.inl e2
          ·exact Or.inr ⟨by omega,by omega⟩
         ·rcases HRSS.out q hq with e|e
          ·omega
          ·omega)
        clear hnx;go_wp2
        go_ret2
        obtain⟨f1,f2,f3,f4,f5⟩:=HFIN.out
        exact⟨f1,Or.inr ⟨f2,sb,rsd,rss,rfl,by rw[←HNB.out];exact f3,f4,f5⟩⟩
set_option maxRecDepth 100000 in
theorem zl1 (h:R18 rs W db R) (hf:yf R+R.blocks.length<1000000):Calls Tryz.prog 37 #[.pointer (some ⟨db,0,none⟩)] W (OpnR rs W db R):=by
 cases hg:R.gone with
 | false=>exact zku h hg hf
 | true=>
  have H:=zd h;obtain⟨bv,bs,hA⟩:=h;obtain⟨c0,c1,c2,c3,y⟩:=hA.cells;rw[hg] at c3;have HO:Hid (R.opened=(R,180)):=(show _=_ from by unfold RDk.opened;rw[if_pos hg])
  clear hA
  go_enter Tryz.func37,Tryz.ntmps37
  go_wp2
  go_ret2
  exact⟨zm.refl _ _,Or.inl ⟨by rw[HO.out];simp,by rw[HO.out];rfl,by rw[HO.out];exact H.out.new (zi _)⟩⟩
end
end Go.Proofs.YtbcbhlfjgobejaaGreat
