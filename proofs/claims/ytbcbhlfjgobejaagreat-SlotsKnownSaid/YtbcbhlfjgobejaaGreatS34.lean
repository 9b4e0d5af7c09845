/- The document's disk: On: the walk. Conditions: none, or as the theorems say. -/
import Derived.Test.YtbcbhlfjgobejaaGreatS1
import Derived.Test.YtbcbhlfjgobejaaGreatS33
import Derived.Test.YtbcbhlfjgobejaaGreatS27
set_option linter.unusedSimpArgs false
set_option linter.unusedVariables false
namespace Go.Proofs.YtbcbhlfjgobejaaGreat
set_option maxHeartbeats 200000000
open Go.RowKit Go.Sf Go.Shelf
variable {db k:Nat} {bv:Value} {W w w':World}
def RDk.onK (R:RDk) (fates:List Int):Nat→RDk
 | 0=>R
 | k+1=>match (R.onK fates k).blocks[k]? with
  | none=>R.onK fates k
  | some x=>(R.onK fates k).setB k (Zr fates x.late x.settled)
def RDk.on (R:RDk) (fates:List Int):RDk:=if R.gone=true then RDk.onK { R with well:=-1,gone:=false } fates R.blocks.length else { R with well:=-1 }
theorem zc2 (R:RDk) (fates:List Int):∀k,(R.onK fates k).blocks.length=R.blocks.length
 | 0=>rfl
 | k+1=>by
  unfold RDk.onK
  split
  ·exact zc2 R fates k
  ·simp[RDk.setB,zc2 R fates k]
theorem zmy (fates:List Int) (l:List (Nat × List Int)) (w:Nat × List Int) (x:List Int):Zr fates (l ++ [w]) x=vq (um fates w.1) w.2 (Zr fates l x):=by simp[Zr]
theorem zg2 (fates:List Int):∀(l:List (Nat × List Int)) (x:List Int),(x.length=256∧BL x)→(∀w∈l,w.2.length=256∧BL w.2)→(Zr fates l x).length=256∧BL (Zr fates l x)
 | [],x,hx,_=>hx
 | w :: r,x,hx,h=>zg2 fates r _ (zc0 (h w (by simp)) hx _) (λw' hw=>h w' (List.mem_cons_of_mem _ hw))
section
variable {rs rs' : Nat → Prop} {W W' : World} {db : Nat} {bv : Value} {bs : List (List Int × Value)} {R R' : RDk}
theorem Vj.at {m:List (Nat × List Int)} {p:Option Addr} {n c:Nat} (h:Vj rs W (.slice p n c) m) {q:Nat} (hq:q<m.length):∃b off,p=some ⟨b,off,none⟩∧rs b∧W.cell? ⟨b,off+q*2,none⟩=some (.int .i64 (m[q].1:Int))∧W.cell? ⟨b,off+q*2+1,none⟩=some (.string (ofB m[q].2)):=by
 obtain⟨p',c',e,hc⟩:=h
 injection e with e1 e2 e3
 subst e1 e2 e3
 rcases hc with hm|⟨b,off,rfl,hrs,hc⟩
 ·rw[hm] at hq;simp at hq
 ·refine⟨b,off,rfl,hrs,?_,?_⟩
  ·refine hc _ _ ?_
   have:=Jy jk 2 Zx m q 0 hq (by omega)
   rw[Nat.add_zero] at this;rw[this];rfl
  ·rw[Nat.add_assoc]
   refine hc _ _ ?_;rw[Jy jk 2 Zx m q 1 hq (by omega)];rfl
set_option maxRecDepth 100000 in
theorem ron (h:R18 rs W db R) {fv:Value} {fates:List Int} (hf:∀w',zm rs W w'→zx w' fv fates) (hfb:BL fates) (hfl:fates.length≤1000000):Calls Tryz.prog 43 #[.pointer (some ⟨db,0,none⟩),fv] W λe w'=>e = .returned (.tuple #[])∧R18 rs w' db (R.on fates)∧zm rs W w':=by
 obtain⟨bv,bs,h⟩:=h;have h1:=h.set (R':={ R with well:=-1 }) 2 (.int .i64 (-1)) rfl rfl (by show(-1:Int)≤-1;omega) (by show(-1:Int)<_;omega)
 have ht1:=h.turnSet 2 (.int .i64 (-1))
 cases hgn:R.gone
 ·have e2:R.on fates = { R with well:=-1 }:=by unfold RDk.on;rw[hgn];rfl
  rw[e2];clear e2;have HR:Hid (R18 rs (W.setCell ⟨db,2,none⟩ (.int .i64 (-1))) db { R with well:=-1 }∧zm rs W (W.setCell ⟨db,2,none⟩ (.int .i64 (-1)))):=(show _∧_ from ⟨⟨_,_,h1⟩,ht1⟩)
  obtain⟨c0,c1,c2,c3,y⟩:=h.cells;rw[hgn] at c3;clear h h1 ht1 hf;generalize ({ R with well:=-1 }:RDk)=R9 at *
  go_enter Tryz.func43,Tryz.ntmps43
  go_wp2
  all_goals first|go_end0|refine bodyPost_ret (results_none rfl _ _ _) rfl ?_
  all_goals exact⟨rfl,HR.out.1,HR.out.2⟩
 ·have e2:R.on fates=RDk.onK { R with well:=-1,gone:=false } fates R.blocks.length:=by unfold RDk.on;rw[hgn];rfl
  rw[e2];clear e2;have h2:=h1.set (R':={ R with well:=-1,gone:=false }) 3 (.bool false) rfl rfl (by show(-1:Int)≤-1;omega) (by show(-1:Int)<_;omega)
  have HT0:=zd (ht1.trans (h1.turnSet 3 (.bool false)));have hn:=h.n;obtain⟨m,hm⟩:∃m,m=R.blocks.length:=⟨_,rfl⟩;obtain⟨R1,hR1⟩:∃R1:RDk,R1 = { R with well:=-1,gone:=false }:=⟨_,rfl⟩
  have HM:Hid (R1.blocks.length=m):=(show _=_ from by rw[hR1,hm])
  rw[←hm] at hn ⊢;rw[←hR1] at h2 ⊢;have HR0:Hid (R18 rs ((W.setCell ⟨db,2,none⟩ (.int .i64 (-1))).setCell ⟨db,3,none⟩ (.bool false)) db (R1.onK fates 0)):=(show R18 _ _ _ _ from ⟨_,_,h2⟩)
  have HF:=zd hf;obtain⟨c0,c1,c2,c3,y⟩:=h.cells;rw[hgn] at c3;clear h h1 h2 ht1 hf hm hR1
  go_enter Tryz.func43,Tryz.ntmps43
  go_upto_region 4 with fail
  clear c0 c1 c2 c3 y;generalize (W.setCell ⟨db,2,none⟩ (.int .i64 (-1))).setCell ⟨db,3,none⟩ (.bool false)=w0 at *
  go_loopw [4] (λi wr=>∃k:Nat,k≤m∧i = .int .i64 k∧R18 rs wr db (R1.onK fates k)∧zm rs W wr) (λi _=>m-(intOf i).toNat)
  case atStart=>exact⟨0,by omega,rfl,HR0.out,HT0.out⟩
  case round=>
   obtain⟨k,hk,rfl,hr,ht⟩:=hrel;clear HR0 HT0;have HT:=zd ht;have HRK:=zd hr;obtain⟨bv,bs,h⟩:=hr;have hlen:=zc2 R1 fates k;rw[HM.out] at hlen;obtain⟨p,cap,rfl,-,-⟩:=h.form;obtain⟨c0,c1,c2,c3,y⟩:=h.cells;rw[hlen] at c0
   by_cases hkm:k<m
   ·have hkl:k<(R1.onK fates k).blocks.length:=by omega
    have hx:(R1.onK fates k).blocks[k]? = some (R1.onK fates k).blocks[k]:=List.getElem?_eq_getElem hkl;obtain⟨g,cap',p1,n,c,e9,-,cs,cl,hnn,hl,hfr,hbs,hgd⟩:=h.blk hx
    injection e9 with e9 _ e10
    subst e9 e10;have hok:=h.ok _ (List.getElem_mem hkl);have hfew:n≤1000000:=by
     have h1:n≤yf (R1.onK fates k):=by
      rw[hnn];unfold yf
      exact Xl _ _ (List.mem_map.2 ⟨_,List.getElem_mem hkl,rfl⟩)
     have:=h.few;omega
    have HN:Hid (R1.onK fates (k+1)=(R1.onK fates k).setB k (Zr fates (R1.onK fates k).blocks[k].late (R1.onK fates k).blocks[k].settled)):=(show _=_ from by
     conv=>lhs;unfold RDk.onK
     rw[hx])
    have HSB:Hid (∀w',wr.grownBy w' none→R18 rs ((w'.setCell ⟨g,k*2,none⟩ (.string (ofB (Zr fates (R1.onK fates k).blocks[k].late (R1.onK fates k).blocks[k].settled)))).setCell ⟨g,k*2+1,none⟩ (.slice none 0 0)) db (R1.onK fates (k+1))∧zm rs W ((w'.setCell ⟨g,k*2,none⟩ (.string (ofB (Zr fates (R1.onK fates k).blocks[k].late (R1.onK fates k).blocks[k].settled)))).setCell ⟨g,k*2+1,none⟩ (.slice none 0 0))):=(show ∀_,_→_∧_ from λw' hg=>by
     have h':=h.same (λk hk=>hg.block k (h.lt k hk) (by simp)) hg.size
     have:=h'.setB (vl:=.slice p1 n c) hx hbs (zg2 fates _ _ hok.1 hok.2);rw[HN.out]
     exact⟨⟨_,_,this.1⟩,ht.trans (zm.trans (vh hg) this.2)⟩)
    have hgl:=h.lt g (h.rbv g rfl);have HL:=zd hl;have HO:=zd hok;have HFR:Hid (∀w',wr.grownBy w' none→w'.cell? ⟨db,0,none⟩=some (.slice (some ⟨g,0,none⟩) m cap)∧w'.cell? ⟨g,k*2,none⟩=some (.string (ofB (R1.onK fates k).blocks[k].settled))∧w'.cell? ⟨g,k*2+1,none⟩=some (.slice p1 n c)∧w'.frozen? ⟨g,k*2,none⟩=false∧w'.frozen? ⟨g,k*2+1,none⟩=false):=(show ∀_,_→_∧_ from λw' hg=>by
     have hb:=hg.block g hgl (by simp)
     have hfz:∀i,w'.frozen? ⟨g,i,none⟩=false:=λi=>by
      rw[←hfr i];unfold World.frozen?;simp only[hb]
     exact⟨hg.cell c0 (by simp),hg.cell cs (by simp),hg.cell cl (by simp),hfz _,hfz _⟩)
    have HRC:Hid (∀w',wr.grownBy w' none→∀N:Nat,Calls Tryz.prog 116 #[.int .i64 (N:Int),fv] w' λe w''=>e = .returned (.int .i64 (um fates N:Int))∧w''=w'):=(show ∀_,_→∀_,Calls _ _ _ _ _ from λw' hg N=>zpz (HF.out w' (ht.trans (vh hg))) hfb hfl N)
    have HDB:Hid (db<wr.heap.size∧g<wr.heap.size):=(show _∧_ from ⟨h.lt db h.rdb,hgl⟩)
    have HB4:Hid (k<m):=(show _<_ from hkm)
    clear h hx hl hbs hok ht;generalize (R1.onK fates k).blocks[k]=x at *;obtain⟨xs,xl⟩:=x;simp only at *;have HNN:=zd hnn;clear hnn
    go_upto_region 8 with fail
    have h1g:=ze wr (.cells #[.string (ofB xs),.slice p1 n c] 188) none;have h1n:=heap_alloc_new wr (.cells #[.string (ofB xs),.slice p1 n c] 188);generalize wr.alloc (.cells #[.string (ofB xs),.slice p1 n c] 188)=W1 at *;have HG1:=zd h1g;have HB1:=zd h1n;obtain⟨mb,hmb⟩:∃mb,mb=wr.heap.size:=⟨_,rfl⟩;have HMB:=zd hmb;rw[←hmb] at HB1 HDB ⊢;clear hmb h1g h1n cs cl c0 c1 c2 c3 y hfr;generalize wr=wz at *
    go_loopw [6] (λj w=>∃q:Nat,q≤n∧j = .int .i64 q∧wz.grownBy w none∧w.heap[mb]? = some (.cells #[.string (ofB (Zr fates (xl.take q) xs)),.slice p1 n c] 188 (0,0))) (λj _=>n-(intOf j).toNat)
    case atStart=>exact⟨0,by omega,rfl,HG1.out,HB1.out⟩
    case round=>
     clear HB1 HG1;obtain⟨q,hq,rfl,hg,hbx⟩:=hrel;have b0:wr.cell? ⟨mb,0,none⟩=some (.string (ofB (Zr fates (xl.take q) xs))):=(zf hbx 0).trans rfl;have b1:wr.cell? ⟨mb,1,none⟩=some (.slice p1 n c):=(zf hbx 1).trans rfl;have bf0:wr.frozen? ⟨mb,0,none⟩=false:=by simp[World.frozen?,hbx]
     obtain⟨d0,d1,d2,d3,d4⟩:=HFR.out _ hg;have HG:=zd hg;have HBX:=zd hbx
     by_cases hqn:q<n
     ·have hql:q<xl.length:=by rw[←HNN.out];exact hqn
      obtain⟨a,off,rfl,hrs,l0,l1⟩:=HL.out.at hql;have l0':=hg.cell l0 (by simp)
      have l1':=hg.cell l1 (by simp)
      have HRE:=zd (HRC.out _ hg xl[q].1);have hmix:Zr fates (xl.take (q+1)) xs=vq (um fates xl[q].1) xl[q].2 (Zr fates (xl.take q) xs):=by
       rw[List.take_succ_eq_append_getElem hql,zmy]
      have hyo:=zg2 fates (xl.take q) xs HO.out.1 (λw hw=>HO.out.2 w (List.mem_of_mem_take hw))
      have hzo:=HO.out.2 xl[q] (List.getElem_mem hql);have hrl:=zpw fates hfb xl[q].1;have hms:=zlo (NL:=xl[q].2) (OL:=Zr fates (xl.take q) xs) (um fates xl[q].1) hyo.1;rw[←hmix] at hms;have HMS:=zd hms;have hs1:(ofB xl[q].2).size=256:=by rw[yu];exact hzo.1
      have hs2:(ofB (Zr fates (xl.take q) xs)).size=256:=by rw[yu];exact hyo.1
      have hne:mb≠a:=λe=>by have:=HMB.out;have:=xi l0;simp only at this;omega
      clear hg l0 l1 hmix hyo hzo hms hbx;generalize xl[q].2=zq at *;generalize xl[q].1=N at *;generalize hY:Zr fates (xl.take q) xs=Y at *;generalize um fates N=r at *;have e1:(0:Int)≤(r:Int):=by omega
      have e2:(r:Int)≤256:=by omega
      have e3:(0:Int)≤(q:Int):=by omega
      have e4:(q:Int)<(n:Int):=by omega
      go_upto_region 11 with (go_at_call 116;refine HRE.out.mono ?_;rintro e w9 ⟨rfl,h5⟩;obtain rfl:wr=w9:=h5.symm)
      refine qH (S:=λw'=>w'.cell? ⟨mb,1,none⟩=some (.slice (some ⟨a,off,none⟩) n c)∧w'.cell? ⟨a,off+q*2+1,none⟩=some (.string (ofB zq))) ⟨b1,l1'⟩ (λhHeld=>?_)
      replace b0:wr.drew.cell? ⟨mb,0,none⟩=some (.string (ofB Y)):=b0;replace bf0:wr.drew.frozen? ⟨mb,0,none⟩=false:=bf0;refine qT 0 ?_;refine qT 1 ?_;refine qT 2 ?_;refine qT 3 ?_;refine qT 4 ?_;refine qT 5 ?_;refine qT 6 ?_;refine qT 7 ?_;refine qT 8 ?_;refine qT 10 ?_;refine qO 9 λK hK=>?_
      go_simp
      refine hK.out _ _ hHeld (λhHeld=>?_)
      clear hK K;refine qT 11 ?_;refine qT 12 ?_;refine qT 13 ?_;refine qO 14 λK hK=>?_
      go_simp
      refine hK.out _ _ ⟨yn (Or.inr (by decide)) hHeld.1,yn (Or.inl (Ne.symm hne)) hHeld.2⟩ (λhHeld=>?_)
      clear hK K;refine qD ?_;rw[HMS.out];have hgs:=zv wr mb 0 (.string (ofB (Zr fates (xl.take (q+1)) xs)));have HG2:Hid (wz.grownBy (wr.setCell ⟨mb,0,none⟩ (.string (ofB (Zr fates (xl.take (q+1)) xs)))).drew none):=(show World.grownBy _ _ _ from zj (xp HG.out hgs (λb hb=>by injection hb with hb;rw[←hb,HMB.out];exact Nat.le_refl _)))
      have HX2:Hid ((wr.setCell ⟨mb,0,none⟩ (.string (ofB (Zr fates (xl.take (q+1)) xs)))).drew.heap[mb]? = some (.cells #[.string (ofB (Zr fates (xl.take (q+1)) xs)),.slice (some ⟨a,off,none⟩) n c] 188 (0,0))):=(show _=_ from by
       show(wr.setCell ⟨mb,0,none⟩ _).heap[mb]? = _
       simp only[World.setCell,Array.getElem?_modify,HBX.out,if_true,Option.map_some]
       rfl)
      generalize (wr.setCell ⟨mb,0,none⟩ (.string (ofB (Zr fates (xl.take (q+1)) xs)))).drew=w7 at *;go_wp2
      exact⟨⟨q+1,by omega,by simp,HG2.out,HX2.out⟩,by simp[intOf];omega⟩
     ·obtain rfl:q=n:=by omega
      have htk:xl.take q=xl:=List.take_of_length_le (by rw[←HNN.out];exact Nat.le_refl _)
      have HSB2:=zd (HSB.out _ hg);rw[htk] at b0;clear hg hbx HBX htk;generalize Zr fates xl xs=z at *;have e3:(0:Int)≤(k:Int):=by omega
      have e4:(k:Int)<(m:Int):=by have:=HB4.out;omega
      have hk1:db≠g:=Ne.symm hgd;have hk2:g≠mb:=by have:=HDB.out;omega
      go_upto_region 12 with fail
      go_region_held3 (λw'=>w'.cell? ⟨db,0,none⟩=some (.slice (some ⟨g,0,none⟩) m cap)∧w'.cell? ⟨mb,0,none⟩=some (.string (ofB z))) (first|assumption|go_keep) (fail)
      go_wp2;refine⟨⟨k+1,by omega,by simp,?_,?_⟩,by simp[intOf];omega⟩
      ·exact R18.kept HSB2.out.1 (zj (zi _))
      ·exact HSB2.out.2.trans (vh (zj (zi _)))
   ·obtain rfl:k=m:=by omega
    go_wp2
    all_goals first|go_end0|refine bodyPost_ret (results_none rfl _ _ _) rfl ?_
    all_goals exact⟨rfl,HRK.out,HT.out⟩
end
theorem infoRb:∃(i:TypeInfo) (z:Value) (by_:Nat),Tryz.prog.info? 188=some i∧i.zero=some z∧i.size=2∧i.bytes=by_∧z.cells.size=2∧by_≤1000:=by
 have h:((Tryz.prog.info? 188).bind λi=>i.zero.map λz=>(i.size,decide (i.bytes≤1000),z.cells.size))=some (2,true,2):=by kernel_rfl
 cases hi:Tryz.prog.info? 188 with
 | none=>rw[hi] at h;cases h
 | some i=>
  rw[hi] at h
  cases hz:i.zero with
  | none=>simp[hz] at h
  | some z=>
   simp[hz] at h
   exact⟨i,z,_,rfl,hz,h.1,rfl,h.2.2,h.2.1⟩
theorem zj5 {X:World} {b:Nat} {zz:List Int} (h:X.heap[b]? = some (.cells (zg zz).toArray 5 (0,0))) (hz:zr=zz):(convert 32 9 (.slice (some ⟨b,0,none⟩) 256 256)).run Tryz.prog X = .ok (.string (ofB zz)) X:=by
 subst hz
 exact zdh (k:=256) h
def Ja (z:List Int):List Value:=[.string (ofB z),.slice none 0 0]
theorem zae (z:List Int):(Ja z).length=2:=rfl
theorem zaf (z:List Int):∀u∈Ja z,u.oneCell'=true:=λu hu=>by
 simp only[Ja,List.mem_cons,List.not_mem_nil,or_false] at hu
 rcases hu with rfl|rfl <;> rfl
theorem zm0 (l:List (List Int)):(l.map λz=>(z,Value.slice none 0 0)).flatMap rblkE=l.flatMap Ja:=by
 rw[List.flatMap_map];rfl
theorem za9 (X:World) (z:List Int):Zh (X.alloc (.cells #[.string (ofB z),.slice none 0 0] 188)) Ja (.slice (some ⟨X.heap.size,0,none⟩) 1 1) [z]:=by
 refine⟨_,1,rfl,Or.inr ⟨_,rfl,λj u hu=>?_⟩⟩
 rw[ut]
 exact(zf (heap_alloc_new X _) j).trans (by simpa[Ja] using hu)
def RDk.new (n:Int):RDk:=⟨List.replicate (min 4096 (max 0 n)).toNat ⟨zr,[]⟩,0,-1,false⟩
structure Vk (W w:World) (db k:Nat) (bv:Value):Prop where
 box:w.heap[db]? = some (.cells #[bv,.int .i64 0,.int .i64 (-1),.bool false] 185 (0,0))
 row:yl w 188 2 Ja bv (List.replicate k zr)
 gr:W.grownBy w none
 le:W.heap.size≤db
 own_:∀g,bv.ownBlock=some g→W.heap.size≤g
theorem Vk.kept (h:Vk W w db k bv) (hg:w.grownBy w' none):Vk W w' db k bv:=
 ⟨(hg.block db (Array.getElem?_eq_some_iff.1 h.box).1 (by simp)).trans h.box,h.row.grown hg (by simp),zh h.gr hg,h.le,h.own_⟩
theorem Vk.ne (h:Vk W w db k bv):bv.ownBlock≠some db:=ji h.row h.box (by decide)
theorem Vk.app {v':Value} (h:Vk W w db k bv) (ha:Yg w 188 2 Ja bv (List.replicate k zr ++ [zr]) v' w'):Vk W (w'.setCell ⟨db,0,none⟩ v') db (k+1) v':=by
 obtain⟨h1,h2,h3⟩:=ha;have hbx:=(h2.block db (Array.getElem?_eq_some_iff.1 h.box).1 (Ne.symm h.ne)).trans h.box;have hs:=zv w' db 0 v';rw[←List.replicate_succ'] at h1;have ho:∀g,v'.ownBlock=some g→W.heap.size≤g:=λg hg=>by
  rcases h3 with e|e
  ·exact h.own_ g (e ▸ hg)
  ·rw[hg] at e
   injection e with e
   have:=h.gr.size;omega
 refine⟨?_,h1.grown hs (λg hg e=>?_),xp (xp h.gr h2 h.own_) hs (λb hb=>by injection hb with hb;rw[←hb];exact h.le),h.le,ho⟩
 ·simp only[World.setCell,Array.getElem?_modify,hbx,if_true,Option.map_some]
  rfl
 ·cases e
  exact ji h1 hbx (by decide) hg
theorem zoi (h:w.heap[db]? = some (.cells #[bv,.int .i64 0,.int .i64 (-1),.bool false] 185 (0,0))):w.heap[db]? = some (.cells #[bv,.int .i64 (wrap64 0),.int .i64 (-1),.bool false] 185 (0,0)):=by
 have hw:wrap64 (0:Int)=0:=by unfold wrap64;omega
 rw[hw]
 exact h
theorem Vk.done {n:Int} (h:Vk W w db (min 4096 (max 0 n)).toNat bv):R18 (λk=>W.heap.size≤k∧k<w.heap.size) w db (RDk.new n):=by
 have hl:(List.replicate (min 4096 (max 0 n)).toNat zr).length=(min 4096 (max 0 n)).toNat:=List.length_replicate;refine⟨bv,(List.replicate (min 4096 (max 0 n)).toNat zr).map λz=>(z,Value.slice none 0 0),⟨zoi h.box,?_,by simp[RDk.new],λi x y hx hy=>?_,⟨h.le,(Array.getElem?_eq_some_iff.1 h.box).1⟩,λg hg=>⟨h.own_ g hg,h.row.lt hg⟩,λk hk=>hk.2,by simp[RDk.new];omega,by show(-1:Int)≤-1;omega,by show(-1:Int)<_;omega,λx hx=>?_,?_⟩⟩
 ·have:=h.row
  unfold yl at this ⊢;rw[List.length_map,zm0]
  exact this
 ·have h1:=List.mem_of_getElem? hx
  have h2:=List.mem_of_getElem? hy;rw[(List.mem_replicate.1 h1).2];obtain⟨z,hz,rfl⟩:=List.mem_map.1 h2;rw[(List.mem_replicate.1 hz).2]
  exact⟨rfl,Vj.nil _ _⟩
 ·rw[(List.mem_replicate.1 hx).2]
  exact⟨⟨xt,λb hb=>by have:=List.eq_of_mem_replicate hb;omega⟩,by simp⟩
 ·unfold yf RDk.new
  simp
set_option maxRecDepth 100000 in
theorem rnew (n:Int) (hn:n<9223372036854775808) (W:World):Calls Tryz.prog 36 #[.int .i64 n] W λe w'=>∃db,e = .returned (.pointer (some ⟨db,0,none⟩))∧W.grownBy w' none∧R18 (λk=>W.heap.size≤k∧k<w'.heap.size) w' db (RDk.new n):=by
 obtain⟨i0,z0,by0,hi,hz0,hz1,hz2,hz3,hz4⟩:=infoRb;have hmk:∀w,(Instr.makeSlice 32 (.int .i64 256) (.int .i64 256)).run Tryz.prog w = .ok (.slice (some ⟨w.heap.size,0,none⟩) 256 256) (w.alloc (.cells (zg (List.replicate 256 0)).toArray 5)):=Vc 256 (by omega)
 have hzb:List.replicate 256 (0:Int)=zr:=rfl;have H0:Hid (Vk W (W.alloc (.cells #[.slice none 0 0,.int .i64 0,.int .i64 (-1),.bool false] 185)) W.heap.size 0 (.slice none 0 0)):=(show Vk _ _ _ _ _ from ⟨heap_alloc_new _ _,⟨rfl,Or.inl ⟨rfl,rfl⟩⟩,ze _ _ none,Nat.le_refl _,λg hg=>by simp[Value.ownBlock] at hg⟩)
 obtain⟨m,hm⟩:∃m,m=(min 4096 (max 0 n)).toNat:=⟨_,rfl⟩;have HM:=zd hm;have hm1:m≤4096:=by omega
 have hmn:∀k:Nat,k<m↔((k:Int)<n∧(k:Int)<4096):=λk=>by omega
 have HMN:=zd hmn;clear hm hmn;rw[hzb] at hmk;generalize hzz:zr=zz at *;have HZZ:=zd hzz;clear hzb hzz
 go_enter Tryz.func36,Tryz.ntmps36
 go_upto_region 3 with fail
 obtain⟨db,hdb⟩:∃db,db=W.heap.size:=⟨_,rfl⟩;rw[←hdb] at H0 ⊢;have HDB:=zd hdb;clear hdb
 go_loopw [4] (λi wr=>∃(k:Nat) (bv:Value),k≤m∧i = .int .i64 k∧Vk W wr db k bv) (λi _=>m-(intOf i).toNat)
 case atStart=>exact⟨0,_,by omega,rfl,H0.out⟩
 case round=>
  obtain⟨k,bv,hk,rfl,ha⟩:=hrel;clear H0;have HA:=zd ha;clear ha;obtain⟨p0,c0,rfl,-,-⟩:=HA.out.row.form;rw[List.length_replicate] at HA
  by_cases hkm:k<m
  ·obtain⟨e1,e2⟩:=(HMN.out k).1 hkm
   have hkm2:k<4096:=by omega
   go_upto_region 5 with fail
   refine qH (S:=λ_:World=>True) trivial (λhHeld=>?_)
   have hgb:wr.grownBy wr.drew none:=zj (zi _);replace HA:=zd (HA.out.kept hgb);clear hgb;generalize wr.drew=W2 at *;refine qT 0 ?_;refine qT 1 ?_;refine qT 2 ?_;refine qT 3 ?_;refine qR [4,5] ?_;refine(qC 4 (λK hK=>?_) (qC 5 (λK hK=>?_) qN))
   ·have c9:=(zf HA.out.box 0).trans rfl
    go_simp
    clear c9;refine hK.out _ _ trivial (λhHeld=>?_)
    clear hK K;refine qO 5 λK hK=>?_
    go_simp
    have hgb:=ze W2 (.cells (zg zz).toArray 5) none;have HZ:=zd (heap_alloc_new W2 (.cells (zg zz).toArray 5));replace HA:=zd (HA.out.kept hgb);clear hgb;generalize W2.alloc (.cells (zg zz).toArray 5)=w5 at *;generalize W2.heap.size=b5 at *;refine hK.out _ _ trivial (λhHeld=>?_)
    clear hK K;refine qO 6 λK hK=>?_
    have hcv:=zj5 HZ.out HZZ.out
    go_simp
    clear hcv;refine hK.out _ _ trivial (λhHeld=>?_)
    clear hK K;refine qT 7 ?_;refine qO 8 λK hK=>?_
    go_simp
    have hgb:=ze w5 (.cells #[.string (ofB zz),.slice none 0 0] 188) none;have HY:=zd (za9 w5 zz)
    try replace HZ:=zd ((hgb.block _ (Array.getElem?_eq_some_iff.1 HZ.out).1 (by simp)).trans HZ.out)
    replace HA:=zd (HA.out.kept hgb);clear hgb;generalize w5.alloc (.cells #[.string (ofB zz),.slice none 0 0] 188)=w8 at *;generalize w5.heap.size=b8 at *;refine hK.out _ _ trivial (λhHeld=>?_)
    clear hK K;refine qO 9 λK hK=>?_
    refine Zf (E:=188) (sz:=2) (enc:=Ja) (v:=.slice p0 k c0) (l:=List.replicate k zr) (m:=[zz]) rfl _ _ 183 rfl zae zaf i0 z0 by0 Tryz.underlying183 hi hz0 hz1 hz2 hz3 (by decide) hz4 rfl HA.out.row rfl HY.out (by simp;omega) (k+1) (by simp) ?_
    intro p9 c9 w9 hap;have HAP:=zd hap;have hdc:=hap.2.1.block db (Array.getElem?_eq_some_iff.1 HA.out.box).1 (Ne.symm HA.out.ne);have hd0:w9.cell? ⟨db,0,none⟩=some (.slice p0 k c0):=(zf (hdc.trans HA.out.box) 0).trans rfl;have hd1:w9.frozen? ⟨db,0,none⟩=false:=by simp[World.frozen?,hdc.trans HA.out.box]
    clear hap hdc;refine hK.out _ _ trivial (λhHeld=>?_)
    clear hK K;refine qT 10 ?_;refine qT 11 ?_;refine qO 12 λK hK=>?_
    go_simp
    refine hK.out _ _ trivial (λhHeld=>?_)
    clear hK K;refine qD ?_;clear hHeld;have HAP2:Hid (Yg w8 188 2 Ja (.slice p0 k c0) (List.replicate k zr ++ [zr]) (.slice p9 (k+1) c9) w9):=(show Yg _ _ _ _ _ _ _ _ from by have:=HAP.out;rw[←HZZ.out] at this;exact this)
    have HN:=zd (HA.out.app HAP2.out);clear HA HAP HAP2 HY HZ hd0 hd1;generalize w9.setCell ⟨db,0,none⟩ (.slice p9 (k+1) c9)=w10 at *;go_wp2
    exact⟨⟨k+1,_,by omega,by simp,HN.out⟩,by simp[intOf];omega⟩
   ·go_simp
    have hgb:=ze W2 (.cells (zg zz).toArray 5) none;have HZ:=zd (heap_alloc_new W2 (.cells (zg zz).toArray 5));replace HA:=zd (HA.out.kept hgb);clear hgb;generalize W2.alloc (.cells (zg zz).toArray 5)=w5 at *;generalize W2.heap.size=b5 at *;refine hK.out _ _ trivial (λhHeld=>?_)
    clear hK K;refine qR [4,6] ?_;refine(qC 4 (λK hK=>?_) (qC 6 (λK hK=>?_) qN))
    ·have c9:=(zf HA.out.box 0).trans rfl
     go_simp
     clear c9;refine hK.out _ _ trivial (λhHeld=>?_)
     clear hK K;refine qO 6 λK hK=>?_
     have hcv:=zj5 HZ.out HZZ.out
     go_simp
     clear hcv;refine hK.out _ _ trivial (λhHeld=>?_)
     clear hK K;refine qT 7 ?_;refine qO 8 λK hK=>?_
     go_simp
     have hgb:=ze w5 (.cells #[.string (ofB zz),.slice none 0 0] 188) none;have HY:=zd (za9 w5 zz)
     try replace HZ:=zd ((hgb.block _ (Array.getElem?_eq_some_iff.1 HZ.out).1 (by simp)).trans HZ.out)
     replace HA:=zd (HA.out.kept hgb);clear hgb;generalize w5.alloc (.cells #[.string (ofB zz),.slice none 0 0] 188)=w8 at *;generalize w5.heap.size=b8 at *;refine hK.out _ _ trivial (λhHeld=>?_)
     clear hK K;refine qO 9 λK hK=>?_
     refine Zf (E:=188) (sz:=2) (enc:=Ja) (v:=.slice p0 k c0) (l:=List.replicate k zr) (m:=[zz]) rfl _ _ 183 rfl zae zaf i0 z0 by0 Tryz.underlying183 hi hz0 hz1 hz2 hz3 (by decide) hz4 rfl HA.out.row rfl HY.out (by simp;omega) (k+1) (by simp) ?_
     intro p9 c9 w9 hap;have HAP:=zd hap;have hdc:=hap.2.1.block db (Array.getElem?_eq_some_iff.1 HA.out.box).1 (Ne.symm HA.out.ne);have hd0:w9.cell? ⟨db,0,none⟩=some (.slice p0 k c0):=(zf (hdc.trans HA.out.box) 0).trans rfl;have hd1:w9.frozen? ⟨db,0,none⟩=false:=by simp[World.frozen?,hdc.trans HA.out.box]
     clear hap hdc;refine hK.out _ _ trivial (λhHeld=>?_)
     clear hK K;refine qT 10 ?_;refine qT 11 ?_;refine qO 12 λK hK=>?_
     go_simp
     refine hK.out _ _ trivial (λhHeld=>?_)
     clear hK K;refine qD ?_;clear hHeld;have HAP2:Hid (Yg w8 188 2 Ja (.slice p0 k c0) (List.replicate k zr ++ [zr]) (.slice p9 (k+1) c9) w9):=(show Yg _ _ _ _ _ _ _ _ from by have:=HAP.out;rw[←HZZ.out] at this;exact this)
     have HN:=zd (HA.out.app HAP2.out);clear HA HAP HAP2 HY HZ hd0 hd1;generalize w9.setCell ⟨db,0,none⟩ (.slice p9 (k+1) c9)=w10 at *;go_wp2
     exact⟨⟨k+1,_,by omega,by simp,HN.out⟩,by simp[intOf];omega⟩
    ·have hcv:=zj5 HZ.out HZZ.out
     go_simp
     clear hcv;refine hK.out _ _ trivial (λhHeld=>?_)
     clear hK K;refine qT 7 ?_;refine qR [4,8] ?_;refine(qC 4 (λK hK=>?_) (qC 8 (λK hK=>?_) qN))
     ·have c9:=(zf HA.out.box 0).trans rfl
      go_simp
      clear c9;refine hK.out _ _ trivial (λhHeld=>?_)
      clear hK K;refine qO 8 λK hK=>?_
      go_simp
      have hgb:=ze w5 (.cells #[.string (ofB zz),.slice none 0 0] 188) none;have HY:=zd (za9 w5 zz)
      try replace HZ:=zd ((hgb.block _ (Array.getElem?_eq_some_iff.1 HZ.out).1 (by simp)).trans HZ.out)
      replace HA:=zd (HA.out.kept hgb);clear hgb;generalize w5.alloc (.cells #[.string (ofB zz),.slice none 0 0] 188)=w8 at *;generalize w5.heap.size=b8 at *;refine hK.out _ _ trivial (λhHeld=>?_)
      clear hK K;refine qO 9 λK hK=>?_
      refine Zf (E:=188) (sz:=2) (enc:=Ja) (v:=.slice p0 k c0) (l:=List.replicate k zr) (m:=[zz]) rfl _ _ 183 rfl zae zaf i0 z0 by0 Tryz.underlying183 hi hz0 hz1 hz2 hz3 (by decide) hz4 rfl HA.out.row rfl HY.out (by simp;omega) (k+1) (by simp) ?_
      intro p9 c9 w9 hap;have HAP:=zd hap;have hdc:=hap.2.1.block db (Array.getElem?_eq_some_iff.1 HA.out.box).1 (Ne.symm HA.out.ne);have hd0:w9.cell? ⟨db,0,none⟩=some (.slice p0 k c0):=(zf (hdc.trans HA.out.box) 0).trans rfl;have hd1:w9.frozen? ⟨db,0,none⟩=false:=by simp[World.frozen?,hdc.trans HA.out.box]
      clear hap hdc;refine hK.out _ _ trivial (λhHeld=>?_)
      clear hK K;refine qT 10 ?_;refine qT 11 ?_;refine qO 12 λK hK=>?_
      go_simp
      refine hK.out _ _ trivial (λhHeld=>?_)
      clear hK K;refine qD ?_;clear hHeld;have HAP2:Hid (Yg w8 188 2 Ja (.slice p0 k c0) (List.replicate k zr ++ [zr]) (.slice p9 (k+1) c9) w9):=(show Yg _ _ _ _ _ _ _ _ from by have:=HAP.out;rw[←HZZ.out] at this;exact this)
      have HN:=zd (HA.out.app HAP2.out);clear HA HAP HAP2 HY HZ hd0 hd1;generalize w9.setCell ⟨db,0,none⟩ (.slice p9 (k+1) c9)=w10 at *;go_wp2
      exact⟨⟨k+1,_,by omega,by simp,HN.out⟩,by simp[intOf];omega⟩
     ·go_simp
      have hgb:=ze w5 (.cells #[.string (ofB zz),.slice none 0 0] 188) none;have HY:=zd (za9 w5 zz)
      try replace HZ:=zd ((hgb.block _ (Array.getElem?_eq_some_iff.1 HZ.out).1 (by simp)).trans HZ.out)
      replace HA:=zd (HA.out.kept hgb);clear hgb;generalize w5.alloc (.cells #[.string (ofB zz),.slice none 0 0] 188)=w8 at *;generalize w5.heap.size=b8 at *;refine hK.out _ _ trivial (λhHeld=>?_)
      clear hK K;refine qO 4 λK hK=>?_
      have c9:=(zf HA.out.box 0).trans rfl
      go_simp
      clear c9;refine hK.out _ _ trivial (λhHeld=>?_)
      clear hK K;refine qO 9 λK hK=>?_
      refine Zf (E:=188) (sz:=2) (enc:=Ja) (v:=.slice p0 k c0) (l:=List.replicate k zr) (m:=[zz]) rfl _ _ 183 rfl zae zaf i0 z0 by0 Tryz.underlying183 hi hz0 hz1 hz2 hz3 (by decide) hz4 rfl HA.out.row rfl HY.out (by simp;omega) (k+1) (by simp) ?_
      intro p9 c9 w9 hap;have HAP:=zd hap;have hdc:=hap.2.1.block db (Array.getElem?_eq_some_iff.1 HA.out.box).1 (Ne.symm HA.out.ne);have hd0:w9.cell? ⟨db,0,none⟩=some (.slice p0 k c0):=(zf (hdc.trans HA.out.box) 0).trans rfl;have hd1:w9.frozen? ⟨db,0,none⟩=false:=by simp[World.frozen?,hdc.trans HA.out.box]
      clear hap hdc;refine hK.out _ _ trivial (λhHeld=>?_)
      clear hK K;refine qT 10 ?_;refine qT 11 ?_;refine qO 12 λK hK=>?_
      go_simp
      refine hK.out _ _ trivial (λhHeld=>?_)
      clear hK K;refine qD ?_;clear hHeld;have HAP2:Hid (Yg w8 188 2 Ja (.slice p0 k c0) (List.replicate k zr ++ [zr]) (.slice p9 (k+1) c9) w9):=(show Yg _ _ _ _ _ _ _ _ from by have:=HAP.out;rw[←HZZ.out] at this;exact this)
      have HN:=zd (HA.out.app HAP2.out);clear HA HAP HAP2 HY HZ hd0 hd1;generalize w9.setCell ⟨db,0,none⟩ (.slice p9 (k+1) c9)=w10 at *;go_wp2
      exact⟨⟨k+1,_,by omega,by simp,HN.out⟩,by simp[intOf];omega⟩
  ·have hno:=λe=>hkm ((HMN.out k).2 e)
   obtain rfl:k=m:=by omega
   by_cases h1:(k:Int)<n
   ·have h2:¬(k:Int)<4096:=λe=>hno ⟨h1,e⟩
    go_wp2
    go_ret
    exact⟨_,rfl,HA.out.gr,by have:=HA.out;rw[HM.out] at this;exact this.done⟩
   ·go_wp2
    go_ret
    exact⟨_,rfl,HA.out.gr,by have:=HA.out;rw[HM.out] at this;exact this.done⟩
end Go.Proofs.YtbcbhlfjgobejaaGreat
