/- The document's disk: Write: the walk. Conditions: none, or as the theorems say. -/
import Derived.Test.YtbcbhlfjgobejaaGreatS21
import Derived.Test.YtbcbhlfjgobejaaGreatS1
import Derived.Test.YtbcbhlfjgobejaaGreatS32
set_option linter.unusedSimpArgs false
set_option linter.unusedVariables false
namespace Go.Proofs.YtbcbhlfjgobejaaGreat
set_option maxHeartbeats 200000000
open Go.RowKit Go.Sf Go.Shelf
variable {z:List Int} {cap g i:Nat} {rs:Nat→Prop} {v:Value} {W X Y w1 w2:World}
theorem infoRl:∃(i:TypeInfo) (z:Value) (by_:Nat),Tryz.prog.info? 206=some i∧i.zero=some z∧i.size=2∧i.bytes=by_∧z.cells.size=2∧by_≤1000:=by
 have h:((Tryz.prog.info? 206).bind λi=>i.zero.map λz=>(i.size,decide (i.bytes≤1000),z.cells.size))=some (2,true,2):=by kernel_rfl
 cases hi:Tryz.prog.info? 206 with
 | none=>rw[hi] at h;cases h
 | some i=>
  rw[hi] at h
  cases hz:i.zero with
  | none=>simp[hz] at h
  | some z=>
   simp[hz] at h
   exact⟨i,z,_,rfl,hz,h.1,rfl,h.2.2,h.2.1⟩
theorem zeh (q:Nat × List Int):∀u∈jk q,u.oneCell'=true:=λu hu=>by
 simp only[jk,List.mem_cons,List.not_mem_nil,or_false] at hu
 rcases hu with rfl|rfl <;> rfl
theorem zny (X:World):yl (X.alloc (.cells #[] 206)) 206 2 jk (.slice (some ⟨X.heap.size,0,none⟩) 0 0) []:=
 ⟨rfl,Or.inr ⟨X.heap.size,0,#[],rfl,Nat.zero_le _,heap_alloc_new X _,Nat.le_refl _,by unfold maxLen;omega,rfl,rfl⟩⟩
theorem zqe (X:World) (q:Nat × List Int) (a b:Value) (ha:a = .int .i64 (q.1:Int)) (hb:b = .string (ofB q.2)):Zh (X.alloc (.cells #[a,b] 206)) jk (.slice (some ⟨X.heap.size,0,none⟩) 1 1) [q]:=by
 subst ha hb;refine⟨_,1,rfl,Or.inr ⟨_,rfl,λj u hu=>?_⟩⟩
 rw[ut]
 exact(zf (heap_alloc_new X _) j).trans (by simpa[jk] using hu)
theorem zdh {b k:Nat} (h:X.heap[b]? = some (.cells (zg (List.replicate k 0)).toArray 5 (0,0))):(convert 32 9 (.slice (some ⟨b,0,none⟩) k k)).run Tryz.prog X = .ok (.string (ofB (List.replicate k 0))) X:=by
 have hr:zx X (.slice (some ⟨b,0,none⟩) (List.replicate k (0:Int)).length k) (List.replicate k 0):=⟨_,_,rfl,Or.inr ⟨_,rfl,λj u hu=>by
  rw[ut]
  exact(zf h j).trans (by simpa using hu)⟩⟩
 have:=uh hr;rw[List.length_replicate] at this
 exact this
theorem qo (h:zm rs W w1) (g:zm (ua rs W w1) w1 w2):zm rs W w2:=
 ⟨g.os.trans h.os,g.tape.trans h.tape,g.output.trans h.output,Nat.le_trans h.size g.size,λk hk hn=>(g.block k (Nat.lt_of_lt_of_le hk h.size) (λe=>e.elim hn (λe=>by omega))).trans (h.block k hk hn)⟩
theorem R18.newer {db:Nat} {R:RDk} (h:R18 (ua rs W w1) w2 db R) (h0:∀k,rs k→k<W.heap.size) (h1:W.heap.size≤w1.heap.size) (h2:w1.heap.size≤w2.heap.size):R18 (ua rs W w2) w2 db R:=h.up (λk hk=>hk.imp id λe=>⟨e.1,by omega⟩) (λk hk=>by
 rcases hk with e|e
 ·have:=h0 k e
  omega
 ·exact e.2)
section
variable {rs rs' : Nat → Prop} {W W' : World} {db : Nat} {bv : Value} {bs : List (List Int × Value)} {R R' : RDk}
theorem Vj.y {m:List (Nat × List Int)} (h:Vj rs W v m) (hg:W.grownBy Y none):Zh Y jk v m:=by
 obtain⟨p,cap,rfl,hc⟩:=h;refine⟨p,cap,rfl,?_⟩
 rcases hc with h0|⟨b,off,rfl,-,h2⟩
 ·exact Or.inl h0
 ·exact Or.inr ⟨⟨b,off,none⟩,rfl,λj u hu=>by rw[zoc];exact hg.cell (h2 j u hu) (by simp)⟩
theorem znx {m:List (Nat × List Int)} (h:yl Y 206 2 jk v m) {P:Nat→Prop} (hP:∀k,v.ownBlock=some k→P k):Vj P Y v m:=by
 obtain⟨p,cap,e,hcm,hlc⟩:=h.form;refine⟨p,cap,e,?_⟩
 rcases yl.at Zx h with h0|⟨g,c,e2,_,_⟩
 ·exact Or.inl h0
 ·rw[e2] at e
  injection e with e1
  refine Or.inr ⟨g,0,e1.symm,hP g (by rw[e2];rfl),λj u hu=>?_⟩
  rw[Nat.zero_add,←ut];have h0:Y.ownsRow 0 206 2 v m.length (m.flatMap jk):=h;rw[e2] at h0
  exact h0.cells (g:=g) rfl j u hu
theorem uu.lay {n c:Nat} {p:Option Addr} {x:zc9} (h:uu rs W db (.slice (some ⟨g,0,none⟩) R.blocks.length cap) bs R) (hx:R.blocks[i]? = some x) (hb:bs[i]? = some (x.settled,.slice p n c)) (hg:W.grownBy Y none)
 (hr:yl Y 206 2 jk v (x.late ++ [(yf R,z)])) (ho:∀b,v.ownBlock=some b→W.heap.size≤b) (hz:z.length=256∧BL z) (hf:yf R<1000000) (hs:yf (R.lay i z)=yf R+1) :
  uu (ua rs W (Y.setCell ⟨g,i*2+1,none⟩ v)) (Y.setCell ⟨g,i*2+1,none⟩ v) db (.slice (some ⟨g,0,none⟩) R.blocks.length cap) (bs.set i (x.settled,v)) (R.lay i z)∧zm rs W (Y.setCell ⟨g,i*2+1,none⟩ v):=by
 have hgs:=zv Y g (i*2+1) v;have hlen:(R.lay i z).blocks.length=R.blocks.length:=by simp[RDk.lay]
 have hi:i<bs.length:=(List.getElem?_eq_some_iff.1 hb).1;have hbi:bs[i]=(x.settled,.slice p n c):=(List.getElem?_eq_some_iff.1 hb).2;have hgd:g≠db:=λe=>h.ne (by rw[←e];rfl)
 have hgr:=h.rbv g rfl;have hgl:=h.lt g hgr;have hsz:Y.heap.size=(Y.setCell ⟨g,i*2+1,none⟩ v).heap.size:=by simp[World.setCell]
 have hold:∀k,rs k→k≠g→(Y.setCell ⟨g,i*2+1,none⟩ v).heap[k]? = W.heap[k]?:=λk hk hne=>(hgs.block k (Nat.lt_of_lt_of_le (h.lt k hk) hg.size) (λe=>hne (by injection e))).trans (hg.block k (h.lt k hk) (by simp))
 refine⟨⟨(hold db h.rdb (λe=>hgd e.symm)).trans h.box,?_,by rw[List.length_set,hlen];exact h.len,λj y w hy hw=>?_,Or.inl h.rdb,λk hk=>Or.inl (h.rbv k hk),λk hk=>?_,by rw[hlen];exact h.n,h.w0,h.w1,λy hy=>?_,by rw[hs];omega⟩,?_⟩
 ·have hrow:=h.row.grown hg (by simp)
  rw[←h.len] at hrow ⊢
  exact yl.set Qv hrow i 1 hi (by omega) (x.settled,v) v (by rw[hbi];rfl)
 ·rcases Nat.decEq j i with hne|rfl
  ·rw[List.getElem?_set_ne (λe=>hne e.symm)] at hw
   have hy':R.blocks[j]? = some y:=by
    simp only[RDk.lay,List.getElem?_modify] at hy
    cases e:R.blocks[j]? with
    | none=>rw[e] at hy;simp at hy
    | some b=>
     have hne2:¬i=j:=λe=>hne e.symm
     rw[e] at hy;simpa[hne2] using hy
   obtain⟨a1,a2⟩:=h.at_ j y w hy' hw
   exact⟨a1,(a2.turn λk hk=>hold k hk.1 (λe=>hk.2.2 (by rw[e];rfl))).mono λk hk=>⟨Or.inl hk.1,hk.2⟩⟩
  ·rw[List.getElem?_set_self hi] at hw
   cases hw
   simp only[RDk.lay,List.getElem?_modify,hx] at hy;simp at hy;subst hy;refine⟨rfl,?_⟩;have hvl:∀k,v.ownBlock=some k→k<Y.heap.size:=λk hk=>hr.lt hk
   refine znx (hr.grown hgs (λb hb e=>?_)) (λk hk=>?_)
   ·cases e
    have:=ho g hb;omega
   ·have h1:=ho k hk
    have h2:=h.lt db h.rdb;refine⟨Or.inr ⟨h1,by rw[←hsz];exact hvl k hk⟩,by omega,?_⟩
    intro e;have e2:g=k:=by simpa[Value.ownBlock] using e
    omega
 ·rcases hk with e|e
  ·rw[←hsz];exact Nat.lt_of_lt_of_le (h.lt k e) hg.size
  ·exact e.2
 ·simp only[RDk.lay] at hy
  obtain⟨j,hj⟩:=List.getElem?_of_mem hy;rw[List.getElem?_modify] at hj
  cases e:R.blocks[j]? with
  | none=>rw[e] at hj;simp at hj
  | some b=>
   rw[e] at hj;obtain⟨o1,o2⟩:=h.ok b (List.mem_of_getElem? e)
   by_cases hij:i=j
   ·simp[hij] at hj
    subst hj;refine⟨o1,λw hw=>?_⟩
    rcases List.mem_append.1 hw with h1|h1
    ·exact o2 w h1
    ·rw[List.mem_singleton.1 h1];exact hz
   ·simp[hij] at hj
    subst hj
    exact⟨o1,o2⟩
 ·exact⟨hgs.os.trans hg.os,hgs.tape.trans hg.tape,hgs.output.trans hg.output,Nat.le_trans hg.size hgs.size,λk hk hn=>(hgs.block k (Nat.lt_of_lt_of_le hk hg.size) (λe=>hn (by injection e with e;rw[e];exact hgr))).trans (hg.block k hk (by simp))⟩
theorem zij (R:RDk) (hi:i<R.blocks.length) (z:List Int):yf (R.lay i z)=yf R+1:=by
 have key:∀(l:List zc9) (f:zc9→zc9) (i:Nat),i<l.length→(∀b,(f b).late.length=b.late.length+1)→((l.modify i f).map λb=>b.late.length).sum=(l.map λb=>b.late.length).sum+1:=by
  intro l f
  induction l with
  | nil=>intro i hi;simp at hi
  | cons a t ih=>
   intro i hi hf
   cases i with
   | zero=>simp[hf];omega
   | succ i=>
    have:=ih i (by simpa using hi) hf
    simp only[List.modify_succ_cons,List.map_cons,List.sum_cons,this];omega
 unfold yf
 exact key R.blocks _ i hi (λb=>by simp)
def RDk.writeV (R:RDk) (i:Int) (b:List Int):Int:=if R.mayE i≠0 then R.mayE i else if 256<b.length then 3 else if (R.lay i.toNat (vf b)).stepB=true then 0 else 180
def RDk.written (R:RDk) (i:Int) (b:List Int):RDk:=if R.mayE i=0∧b.length≤256 then (if (R.lay i.toNat (vf b)).stepB=true then (R.lay i.toNat (vf b)).went else (R.lay i.toNat (vf b)).fell) else R
theorem pad_str {s:ByteArray} (hs:s.size≤256):s++ofB (List.replicate (256-s.size) 0)=ofB (vf (yz s)):=by
 unfold vf;rw[←zg5,zpj,yt]
set_option maxRecDepth 100000 in
theorem zf6 (h:R18 rs W db R) (i:Int) (s:ByteArray) (hs:s.size≤9223372036854775807) (hno:R.mayE i≠0∨256<s.size):Calls Tryz.prog 44 #[.pointer (some ⟨db,0,none⟩),.int .i64 i,.string s] W λe w'=>e = .returned (.int .i64 (R.writeV i (yz s)))∧R18 (ua rs W w') w' db (R.written i (yz s))∧zm rs W w':=by
 have HM2:Hid (Calls Tryz.prog 117 #[.pointer (some ⟨db,0,none⟩),.int .i64 i] W λe w'=>e = .returned (.int .i64 (R.mayE i))∧w'=W):=(show Calls _ _ _ _ _ from rmay h i 0)
 have HE:Hid (R18 (ua rs W W) W db (R.written i (yz s))∧zm rs W W):=(show _∧_ from ⟨by
  unfold RDk.written;rw[if_neg (λe=>hno.elim (λh1=>h1 e.1) (λh1=>by rw[yt] at e;omega))]
  exact h.new (zi _),zm.refl _ _⟩)
 have hv:R.writeV i (yz s)=if R.mayE i≠0 then R.mayE i else 3:=by
  unfold RDk.writeV;rw[yt]
  rcases hno with h1|h1
  ·rw[if_pos h1,if_pos h1]
  ·split
   ·rfl
   ·first|rfl|rw[if_pos h1]
 rw[hv];clear h hv;generalize R.mayE i=ev at *;generalize R.written i (yz s)=R9 at *;have hsz:∃n,n=s.size:=⟨_,rfl⟩
 by_cases he:ev=0
 ·have h2:256<s.size:=hno.resolve_left (λh=>h he)
  subst he
  go_enter Tryz.func44,Tryz.ntmps44
  go_wp2_with (go_at_call 117;refine HM2.out.mono ?_;rintro e w1 ⟨rfl,h5⟩;obtain rfl:W=w1:=h5.symm)
  go_ret
  exact⟨rfl,HE.out⟩
 ·rw[if_pos he]
  clear hno
  go_enter Tryz.func44,Tryz.ntmps44
  go_wp2_with (go_at_call 117;refine HM2.out.mono ?_;rintro e w1 ⟨rfl,h5⟩;obtain rfl:W=w1:=h5.symm)
  go_ret
  exact⟨rfl,HE.out⟩
set_option maxRecDepth 100000 in
theorem znp (h:R18 rs W db R) (i:Nat) (hm:R.mayE (i:Int)=0) (s:ByteArray) (hs:s.size≤256) (hf:yf R<1000000):Calls Tryz.prog 44 #[.pointer (some ⟨db,0,none⟩),.int .i64 (i:Int),.string s] W λe w'=>e = .returned (.int .i64 (if (R.lay i (vf (yz s))).stepB=true then 0 else 180))∧R18 (ua rs W w') w' db (if (R.lay i (vf (yz s))).stepB=true then (R.lay i (vf (yz s))).went else (R.lay i (vf (yz s))).fell)∧zm rs W w':=by
 have HM2:Hid (Calls Tryz.prog 117 #[.pointer (some ⟨db,0,none⟩),.int .i64 (i:Int)] W λe w'=>e = .returned (.int .i64 0)∧w'=W):=(show Calls _ _ _ _ _ from by rw[←hm];exact rmay h i 0)
 have HO:Hid (∀w,W.grownBy w none→Calls Tryz.prog 118 #[.pointer (some ⟨db,0,none⟩)] w λe w'=>e = .returned (.int .i64 (yf R:Int))∧w'=w):=(show ∀w,_→Calls _ _ _ _ _ from λw hg=>ropen18 (h.kept hg))
 obtain⟨i0,z0,by0,hi,hz0,hz1,hz2,hz3,hz4⟩:=infoRl;obtain⟨hgn,k,hk0,hik⟩:=zl0 R _ hm;obtain rfl:i=k:=by omega
 clear hk0 hm;have HRL:Hid (∀k,rs k→k<W.heap.size):=(show ∀_,_ from λk hk=>h.lt hk)
 obtain⟨bv,bs,h⟩:=h;have hx:R.blocks[i]? = some R.blocks[i]:=List.getElem?_eq_getElem hik;obtain⟨g,cap,p,n,c,rfl,-,cs,cl,hn,hl,hfr,hbs,hgd⟩:=h.blk hx;have hfew:n≤1000000:=by
  have:n≤yf R:=by
   rw[hn];unfold yf
   exact Xl _ _ (List.mem_map.2 ⟨_,List.getElem_mem hik,rfl⟩)
  omega
 have hm4:=h.n;obtain⟨c0,c1,c2,c3,y⟩:=h.cells;have HL:=zd hl;have HN:=zd hn;have hps:=pad_str hs;have hz:(vf (yz s)).length=256∧BL (vf (yz s)):=⟨zar (by rw[yt];exact hs),zlw (zc5 s)⟩
 have HLAY:Hid (∀(Y:World) (v:Value),W.grownBy Y none→yl Y 206 2 jk v (R.blocks[i].late ++ [(yf R,vf (yz s))])→(∀b,v.ownBlock=some b→W.heap.size≤b)→R18 (ua rs W (Y.setCell ⟨g,i*2+1,none⟩ v)) (Y.setCell ⟨g,i*2+1,none⟩ v) db (R.lay i (vf (yz s)))∧zm rs W (Y.setCell ⟨g,i*2+1,none⟩ v)):=(λY v a1 a2 a3=>by
  have:=h.lay hx hbs a1 a2 a3 hz hf (zij R hik _)
  exact⟨⟨_,_,this.1⟩,this.2⟩)
 have HB2:Hid (g<W.heap.size∧db<W.heap.size):=(show _∧_ from ⟨h.lt g (h.rbv g rfl),h.lt db h.rdb⟩)
 have hmk:=Vc (256-s.size) (by omega)
 have hsm:¬(9223372036854775807<s.size+(ofB (List.replicate (256-s.size) 0)).size):=by rw[yu,List.length_replicate];omega
 have hsub:(256:Int)-(s.size:Int)=((256-s.size:Nat):Int):=by omega
 have hwr:IntKind.i64.wrap ((256-s.size:Nat):Int)=((256-s.size:Nat):Int):=by rw[IntKind.wrap_i64];omega
 have HF:=zd hf;clear h hx hl hbs hz hf;generalize R.blocks[i]=x at *;obtain⟨xs,xl⟩:=x;simp only at *;generalize hmm:R.blocks.length=m at *;clear hmm;generalize hL:R.lay i (vf (yz s))=RL at *;clear hL;generalize hoo:yf R=oo at *;clear hoo;have HEND:Hid (∀w,R18 (ua rs W w) w db RL→zm rs W w→Calls Tryz.prog 119 #[.pointer (some ⟨db,0,none⟩)] w λe w'=>e = .returned (.bool RL.stepB)∧R18 (ua rs W w') w' db (if RL.stepB=true then RL.went else RL.fell)∧zm rs W w'):=(show ∀w,_→_→Calls _ _ _ _ _ from λw hr ht=>by
  refine(rstep hr).mono ?_;rintro e w' ⟨rfl,h1,h2⟩
  exact⟨rfl,h1.newer HRL.out ht.size h2.size,qo ht h2⟩)
 generalize (if RL.stepB=true then RL.went else RL.fell)=RE at *
 generalize RL.stepB=sb at *;generalize vf (yz s)=zz at *;have hzn:256-s.size≤256:=by omega
 generalize 256-s.size=zn at *;clear hn
 go_enter Tryz.func44,Tryz.ntmps44
 go_upto_region 7 with (go_at_call 117;refine HM2.out.mono ?_;rintro e w1 ⟨rfl,h5⟩;obtain rfl:W=w1:=h5.symm)
 have h1g:=ze W (.cells #[.string (ofB xs),.slice p n c] 188) none;have h1n:=heap_alloc_new W (.cells #[.string (ofB xs),.slice p n c] 188);have h1s:(W.alloc (.cells #[.string (ofB xs),.slice p n c] 188)).heap.size=W.heap.size+1:=by simp
 generalize W.alloc (.cells #[.string (ofB xs),.slice p n c] 188)=W1 at *;have HG1:=zd h1g;have HS1:=zd h1s;have HS:Hid (∀w':World,W1.grownBy w' none→w'.cell? ⟨db,0,none⟩=some (.slice (some ⟨g,0,none⟩) m cap)∧w'.cell? ⟨W.heap.size,1,none⟩=some (.slice p n c)):=(show ∀_,_→_∧_ from λw' hg=>⟨(zh h1g hg).cell c0 (by simp),hg.cell ((zf h1n 1).trans rfl) (by simp)⟩)
 have HST:Hid (∀w':World,W1.grownBy w' none→w'.cell? ⟨g,i*2+1,none⟩=some (.slice p n c)∧w'.frozen? ⟨g,i*2+1,none⟩=false):=(show ∀_,_→_∧_ from λw' hg=>by
  have hg2:=zh h1g hg;refine⟨hg2.cell cl (by simp),?_⟩
  have hb:=hg2.block g HB2.out.1 (by simp)
  rw[←hfr (i*2+1)];unfold World.frozen?;simp only[hb])
 clear h1g h1n h1s cs cl c0;have HMB:Hid (g<W.heap.size∧db<W.heap.size∧W.heap.size<W1.heap.size):=(show _∧_ from ⟨HB2.out.1,HB2.out.2,by rw[HS1.out];omega⟩)
 obtain⟨mb,hmb⟩:∃mb,mb=W.heap.size:=⟨_,rfl⟩;have HMBE:=zd hmb;rw[←hmb] at HS HMB ⊢;clear hmb HB2 HS1;have HG:Hid (W1.grownBy W1.drew none):=(show World.grownBy _ _ _ from zj (zi _))
 refine qH (S:=λw':World=>w'.cell? ⟨db,0,none⟩=some (.slice (some ⟨g,0,none⟩) m cap)∧w'.cell? ⟨mb,1,none⟩=some (.slice p n c)) (HS.out _ HG.out) (λhHeld=>?_)
 generalize W1.drew=V at *;refine qT 0 ?_;refine qT 4 ?_;refine qT 6 ?_;refine qT 9 ?_;refine qT 11 ?_;refine qT 12 ?_;refine qT 1 ?_;refine qT 7 ?_;refine qT 13 ?_;refine qT 2 ?_;refine qT 14 ?_;refine qT 3 ?_
 repeat' first
  | refine sT 17 ?_
  | refine sT 18 ?_
  | refine sT 21 ?_
  | refine sT 22 ?_
  | refine sR [5,15] ?_
  | refine sR [8,15] ?_
  | refine sR [10,15] ?_
  | refine sR [15] ?_
  | refine sR [16] ?_
  | refine sR [19] ?_
  | refine sR [20] ?_
  | refine sR [23] ?_
  | refine sR [10,16] ?_
  | refine sR [10] ?_
  | refine sR [8,16] ?_
  | refine sR [8] ?_
  | refine sR [5,16] ?_
  | refine sR [5] ?_
  | refine sD ?_
  | exact qN
  | (
   refine qC 5 (λK hK=>?_) ?_
   focus
    go_simp
    have hgb:=ze V (.cells #[] 206) none;have hsz:=HG.out.size;have HA:=zd (zny V)
    try replace HA:=zd (yl.grown HA.out hgb (by simp))
    try replace HB:=zd ((hgb.block _ (Array.getElem?_eq_some_iff.1 HB.out).1 (by simp)).trans HB.out)
    replace HG:=zd (zh HG.out hgb);have HP5:Hid (W1.heap.size≤V.heap.size):=(show _≤_ from hsz)
    clear hgb hsz;generalize V.heap.size=b5 at *;generalize V.alloc (.cells #[] 206)=V at *;refine hK.out _ _ (HS.out _ HG.out) (λhHeld=>?_)
    clear hK K)
  | (
   refine qC 15 (λK hK=>?_) ?_
   focus
    go_simp
    have hgb:=ze V (.cells (zg (List.replicate zn 0)).toArray 5) none;have hsz:=HG.out.size;have HB:=zd (heap_alloc_new V (.cells (zg (List.replicate zn 0)).toArray 5))
    try replace HA:=zd (yl.grown HA.out hgb (by simp))
    try replace HB:=zd ((hgb.block _ (Array.getElem?_eq_some_iff.1 HB.out).1 (by simp)).trans HB.out)
    replace HG:=zd (zh HG.out hgb);have HP15:Hid (W1.heap.size≤V.heap.size):=(show _≤_ from hsz)
    clear hgb hsz;generalize V.heap.size=b15 at *;generalize V.alloc (.cells (zg (List.replicate zn 0)).toArray 5)=V at *;refine hK.out _ _ (HS.out _ HG.out) (λhHeld=>?_)
    clear hK K)
  | (
   refine qC 16 (λK hK=>?_) ?_
   focus
    have hcv:=zdh HB.out
    go_simp
    clear hcv;refine hK.out _ _ (HS.out _ HG.out) (λhHeld=>?_)
    clear hK K)
  | (
   refine qC 10 (λK hK=>?_) ?_
   focus
    go_simp
    refine(HO.out _ (zh HG1.out HG.out)).mono ?_;rintro e w10 ⟨rfl,h5⟩;obtain rfl:V=w10:=h5.symm;refine hK.out _ _ (HS.out _ HG.out) (λhHeld=>?_)
    clear hK K)
  | (
   refine qC 8 (λK hK=>?_) ?_
   focus
    refine Zf (E:=206) (sz:=2) (enc:=jk) (v:=.slice (some ⟨b5,0,none⟩) 0 0) (l:=[]) (m:=xl) rfl _ _ 186 rfl Zx zeh i0 z0 by0 Tryz.underlying186 hi hz0 hz1 hz2 hz3 (by decide) hz4 rfl HA.out rfl (HL.out.y (zh HG1.out HG.out)) (by have:=HN.out;have:=HF.out;simp;omega) (n) (by have:=HN.out;simp;try omega) ?_
    intro p8 c8 V hap
    try replace HB:=zd ((hap.2.1.block _ (Array.getElem?_eq_some_iff.1 HB.out).1 (λe=>ji HA.out HB.out (by decide) e.symm)).trans HB.out)
    have HG9:=zd (xp HG.out hap.2.1 (λb hb=>by have:=HP5.out;simp[Value.ownBlock] at hb;omega))
    have HO8:Hid (∀b,(Value.slice p8 (n) c8).ownBlock=some b→W1.heap.size≤b):=(λb hb=>by
     rcases hap.2.2 with e|e
     ·have hv:=HP5.out
      rw[hb] at e;simp[Value.ownBlock] at e;omega
     ·rw[hb] at e
      injection e with e
      have:=HG.out.size;omega)
    have HA9:=zd hap.1;clear HA HG hap;have HA:=zd HA9.out;have HG:=zd HG9.out;clear HA9 HG9;refine hK.out _ _ (HS.out _ HG.out) (λhHeld=>?_)
    clear hK K)
  | (
   refine qC 19 (λK hK=>?_) ?_
   focus
    go_simp
    have hgb:=ze V (.cells #[.int .i64 (oo:Int),.string (ofB zz)] 206) none;have hsz:=HG.out.size;have HY:=zd (zqe V (oo,zz) _ _ rfl rfl)
    try replace HA:=zd (yl.grown HA.out hgb (by simp))
    try replace HB:=zd ((hgb.block _ (Array.getElem?_eq_some_iff.1 HB.out).1 (by simp)).trans HB.out)
    replace HG:=zd (zh HG.out hgb);have HP19:Hid (W1.heap.size≤V.heap.size):=(show _≤_ from hsz)
    clear hgb hsz;generalize V.heap.size=b19 at *;generalize V.alloc (.cells #[.int .i64 (oo:Int),.string (ofB zz)] 206)=V at *;refine hK.out _ _ (HS.out _ HG.out) (λhHeld=>?_)
    clear hK K)
  | (
   refine qC 20 (λK hK=>?_) ?_
   focus
    refine Zf (E:=206) (sz:=2) (enc:=jk) (v:=.slice p8 n c8) (l:=xl) (m:=[(oo,zz)]) rfl _ _ 186 rfl Zx zeh i0 z0 by0 Tryz.underlying186 hi hz0 hz1 hz2 hz3 (by decide) hz4 rfl HA.out rfl HY.out (by have:=HN.out;have:=HF.out;simp;omega) (n+1) (by have:=HN.out;simp;try omega) ?_
    intro p20 c20 V hap
    try replace HB:=zd ((hap.2.1.block _ (Array.getElem?_eq_some_iff.1 HB.out).1 (λe=>ji HA.out HB.out (by decide) e.symm)).trans HB.out)
    have HG9:=zd (xp HG.out hap.2.1 (λb hb=>HO8.out b hb))
    have HO20:Hid (∀b,(Value.slice p20 (n+1) c20).ownBlock=some b→W1.heap.size≤b):=(λb hb=>by
     rcases hap.2.2 with e|e
     ·have hv:=HO8.out
      rw[hb] at e
      exact hv b e.symm
     ·rw[hb] at e
      injection e with e
      have:=HG.out.size;omega)
    have HA9:=zd hap.1;clear HA HG hap;have HA:=zd HA9.out;have HG:=zd HG9.out;clear HA9 HG9;refine hK.out _ _ (HS.out _ HG.out) (λhHeld=>?_)
    clear hK K)
  | (
   refine qC 23 (λK hK=>?_) ?_
   focus
    obtain⟨st1,st2⟩:=HST.out _ HG.out
    go_simp
    have HF9:=zd (HLAY.out V (.slice p20 (n+1) c20) (zh HG1.out HG.out) HA.out (λb hb=>Nat.le_trans HG1.out.size (HO20.out b hb)))
    refine hK.out _ _ ⟨yn (b2:=db) (b:=g) (Or.inl (λe=>hgd e.symm)) (HS.out _ HG.out).1,yn (b2:=mb) (b:=g) (Or.inl (by have:=HMB.out;omega)) (HS.out _ HG.out).2⟩ (λhHeld=>?_)
    clear hK K)
 all_goals
  clear hHeld;have HF10:=HF9;clear HA HG HF9 HP5 HP15 HP19 HO8 HO20 HY HB
  cases sb
  ·go_wp2_with (go_at_call 119;refine(HEND.out _ HF10.out.1 HF10.out.2).mono ?_;rintro e w22 ⟨rfl,hr,ht⟩;have HR:=zd hr;have HT:=zd ht;clear hr ht)
   go_ret
   exact⟨rfl,HR.out,HT.out⟩
  ·go_wp2_with (go_at_call 119;refine(HEND.out _ HF10.out.1 HF10.out.2).mono ?_;rintro e w22 ⟨rfl,hr,ht⟩;have HR:=zd hr;have HT:=zd ht;clear hr ht)
   go_ret
   exact⟨rfl,HR.out,HT.out⟩
theorem zhd (h:R18 rs W db R) (i:Int) (s:ByteArray) (hs:s.size≤9223372036854775807) (hf:yf R<1000000):Calls Tryz.prog 44 #[.pointer (some ⟨db,0,none⟩),.int .i64 i,.string s] W λe w'=>e = .returned (.int .i64 (R.writeV i (yz s)))∧R18 (ua rs W w') w' db (R.written i (yz s))∧zm rs W w':=by
 by_cases hm:R.mayE i=0
 ·by_cases hl:s.size≤256
  ·obtain⟨hgn,k,rfl,hik⟩:=zl0 R _ hm
   have:=znp h k hm s hl hf;have e1:R.writeV (k:Int) (yz s)=if (R.lay k (vf (yz s))).stepB=true then 0 else 180:=by
    unfold RDk.writeV;rw[if_neg (λh=>h hm),if_neg (by rw[yt];omega),Int.toNat_natCast]
   have e2:R.written (k:Int) (yz s)=if (R.lay k (vf (yz s))).stepB=true then (R.lay k (vf (yz s))).went else (R.lay k (vf (yz s))).fell:=by
    unfold RDk.written;rw[if_pos ⟨hm,by rw[yt];exact hl⟩,Int.toNat_natCast]
   rw[e1,e2]
   exact this
  ·exact zf6 h i s hs (Or.inr (by omega))
 ·exact zf6 h i s hs (Or.inl hm)
end
theorem vh {A:Nat→Prop} (hg:X.grownBy Y none):zm A X Y:=⟨hg.os,hg.tape,hg.output,hg.size,λk hk _=>hg.block k hk (by simp)⟩
def RDk.setB (R:RDk) (i:Nat) (z:List Int):RDk:={ R with blocks:=R.blocks.set i ⟨z,[]⟩ }
theorem zen:∀(l:List zc9) (i:Nat) (z:List Int),((l.set i ⟨z,[]⟩).map λb=>b.late.length).sum≤(l.map λb=>b.late.length).sum
 | [],i,z=>by simp
 | a :: t,0,z=>by simp
 | a :: t,i+1,z=>by
  have:=zen t i z;simp only[List.set_cons_succ,List.map_cons,List.sum_cons];omega
section
variable {rs rs' : Nat → Prop} {W W' : World} {db : Nat} {bv : Value} {bs : List (List Int × Value)} {R R' : RDk}
theorem uu.setB {x:zc9} {vl:Value} (h:uu rs W db (.slice (some ⟨g,0,none⟩) R.blocks.length cap) bs R) (hx:R.blocks[i]? = some x) (hb:bs[i]? = some (x.settled,vl)) (hz:z.length=256∧BL z) :
  uu rs ((W.setCell ⟨g,i*2,none⟩ (.string (ofB z))).setCell ⟨g,i*2+1,none⟩ (.slice none 0 0)) db (.slice (some ⟨g,0,none⟩) R.blocks.length cap) (bs.set i (z,.slice none 0 0)) (R.setB i z)∧zm rs W ((W.setCell ⟨g,i*2,none⟩ (.string (ofB z))).setCell ⟨g,i*2+1,none⟩ (.slice none 0 0)):=by
 have h1:=zv W g (i*2) (.string (ofB z));have h2:=zv (W.setCell ⟨g,i*2,none⟩ (.string (ofB z))) g (i*2+1) (.slice none 0 0);have hlen:(R.setB i z).blocks.length=R.blocks.length:=by simp[RDk.setB]
 have hi:i<bs.length:=(List.getElem?_eq_some_iff.1 hb).1;have hbi:bs[i]=(x.settled,vl):=(List.getElem?_eq_some_iff.1 hb).2;have hgd:g≠db:=λe=>h.ne (by rw[←e];rfl)
 have hgr:=h.rbv g rfl;have hsz:W.heap.size=((W.setCell ⟨g,i*2,none⟩ (.string (ofB z))).setCell ⟨g,i*2+1,none⟩ (.slice none 0 0)).heap.size:=by simp[World.setCell]
 have hold:∀k,k<W.heap.size→k≠g→((W.setCell ⟨g,i*2,none⟩ (.string (ofB z))).setCell ⟨g,i*2+1,none⟩ (.slice none 0 0)).heap[k]? = W.heap[k]?:=λk hk hne=>(h2.block k (Nat.lt_of_lt_of_le hk h1.size) (λe=>hne (by injection e))).trans (h1.block k hk (λe=>hne (by injection e)))
 have hfew:=h.few;refine⟨⟨(hold db (h.lt db h.rdb) (λe=>hgd e.symm)).trans h.box,?_,by rw[List.length_set,hlen];exact h.len,λj y w hy hw=>?_,h.rdb,h.rbv,λk hk=>by rw[←hsz];exact h.lt k hk,by rw[hlen];exact h.n,h.w0,h.w1,λy hy=>?_,?_⟩,?_⟩
 ·have hrow:=h.row
  rw[←h.len] at hrow ⊢;have a1:=yl.set Qv hrow i 0 hi (by omega) (z,vl) (.string (ofB z)) (by rw[hbi];rfl)
  have hl2:(bs.set i (z,vl)).length=bs.length:=List.length_set;have a2:=yl.set (g:=g) (cap:=cap) Qv (by rw[hl2];exact a1) i 1 (by rw[hl2];exact hi) (by omega) (z,Value.slice none 0 0) (.slice none 0 0) (by rw[List.getElem_set_self];rfl)
  rw[List.set_set,hl2] at a2
  exact a2
 ·rcases Nat.decEq j i with hne|rfl
  ·rw[List.getElem?_set_ne (λe=>hne e.symm)] at hw
   have hy':R.blocks[j]? = some y:=by
    simp only[RDk.setB] at hy
    rwa [List.getElem?_set_ne (λe=>hne e.symm)] at hy
   obtain⟨a1,a2⟩:=h.at_ j y w hy' hw
   exact⟨a1,a2.turn λk hk=>hold k (h.lt k hk.1) (λe=>hk.2.2 (by rw[e];rfl))⟩
  ·rw[List.getElem?_set_self hi] at hw
   cases hw
   simp only[RDk.setB] at hy;rw[List.getElem?_set_self (by rw[←h.len];exact hi)] at hy
   cases hy
   exact⟨rfl,Vj.nil _ _⟩
 ·simp only[RDk.setB] at hy
  rcases List.mem_or_eq_of_mem_set hy with h3|h3
  ·exact h.ok y h3
  ·rw[h3]
   exact⟨hz,by simp⟩
 ·exact Nat.le_trans (zen R.blocks i z) hfew
 ·exact⟨h2.os.trans h1.os,h2.tape.trans h1.tape,h2.output.trans h1.output,Nat.le_of_eq hsz,λk hk hn=>hold k hk (λe=>hn (e ▸ hgr))⟩
def RDk.syncK (R:RDk):Nat→RDk
 | 0=>R
 | k+1=>match (R.syncK k).blocks[k]? with
  | none=>R.syncK k
  | some x=>if 0<x.late.length then (R.syncK k).setB k (jo x.late x.settled) else R.syncK k
def RDk.syncV (R:RDk):Int:=if R.gone=true then 180 else if R.stepB=true then 0 else 180
def RDk.synced (R:RDk):RDk:=if R.gone=true then R else if R.stepB=true then R.went.syncK R.blocks.length else R.fell
theorem Vt (R:RDk):∀k,(R.syncK k).blocks.length=R.blocks.length
 | 0=>rfl
 | k+1=>by
  unfold RDk.syncK
  split
  ·exact Vt R k
  ·split
   ·simp[RDk.setB,Vt R k]
   ·exact Vt R k
theorem zh8 {x:zc9} (h:(x.settled.length=256∧BL x.settled)∧∀w∈x.late,w.2.length=256∧BL w.2):(jo x.late x.settled).length=256∧BL (jo x.late x.settled):=by
 unfold jo
 cases e:x.late.getLast? with
 | none=>exact h.1
 | some w=>exact h.2 w (List.mem_of_getLast? e)
set_option maxRecDepth 100000 in
theorem rsync (h:R18 rs W db R):Calls Tryz.prog 110 #[.pointer (some ⟨db,0,none⟩)] W λe w'=>e = .returned (.int .i64 R.syncV)∧R18 rs w' db R.synced∧zm rs W w':=by
 have HST:=zd (rstep h)
 cases hgn:R.gone
 ·have e1:R.syncV=if R.stepB=true then 0 else 180:=by unfold RDk.syncV;rw[hgn];rfl
  have e2:R.synced=if R.stepB=true then R.went.syncK R.blocks.length else R.fell:=by unfold RDk.synced;rw[hgn];rfl
  rw[e1,e2];clear e1 e2;obtain⟨bv,bs,h⟩:=h;obtain⟨c0,c1,c2,c3,y⟩:=h.cells;rw[hgn] at c3
  cases hsb:R.stepB
  ·rw[hsb] at HST
   simp only[Bool.false_eq_true,if_false] at HST ⊢;clear h;generalize R.fell=RF at *
   go_enter Tryz.func110,Tryz.ntmps110
   go_wp2_with (go_at_call 119;refine HST.out.mono ?_;rintro e w1 ⟨rfl,hr,ht⟩;have HR:=zd hr;have HT:=zd ht;clear hr ht)
   go_ret
   exact⟨rfl,HR.out,HT.out⟩
  ·rw[hsb] at HST
   simp only[if_true] at HST ⊢;have hn:=h.n;obtain⟨m,hm⟩:∃m,m=R.blocks.length:=⟨_,rfl⟩;have HM:Hid (R.went.blocks.length=m):=(show _=_ from hm.symm)
   rw[←hm] at hn ⊢;clear h hm;generalize R.went=RW at *
   go_enter Tryz.func110,Tryz.ntmps110
   go_upto_region 4 with (go_at_call 119;refine HST.out.mono ?_;rintro e w1 ⟨rfl,hr,ht⟩;have HR:=zd hr;have HT:=zd ht;clear hr ht)
   clear c0 c1 c2 c3 y;have HK0:Hid (R18 rs w1 db (RW.syncK 0)):=(show R18 _ _ _ _ from HR.out)
   go_loopw [3] (λi wr=>∃k:Nat,k≤m∧i = .int .i64 k∧R18 rs wr db (RW.syncK k)∧zm rs W wr) (λi _=>m-(intOf i).toNat)
   case atStart=>exact⟨0,by omega,rfl,HK0.out,HT.out⟩
   case round=>
    obtain⟨k,hk,rfl,hr,ht⟩:=hrel;clear HK0 HR HT;have HT:=zd ht;have HRK:=zd hr;obtain⟨bv,bs,h⟩:=hr;have hlen:=Vt RW k;rw[HM.out] at hlen;obtain⟨p,cap,rfl,-,-⟩:=h.form;obtain⟨c0,c1,c2,c3,y⟩:=h.cells;rw[hlen] at c0
    by_cases hkm:k<m
    ·have hx:(RW.syncK k).blocks[k]? = some (RW.syncK k).blocks[k]:=List.getElem?_eq_getElem (by omega)
     obtain⟨g,cap',p1,n,c,e9,-,cs,cl,hnn,hl,hfr,hbs,hgd⟩:=h.blk hx
     injection e9 with e9 _ e10
     subst e9 e10;have hok:=zh8 (h.ok _ (List.getElem_mem (by omega:k<(RW.syncK k).blocks.length)))
     have hfew:n≤1000000:=by
      have h1:n≤yf (RW.syncK k):=by
       rw[hnn];unfold yf
       exact Xl _ _ (List.mem_map.2 ⟨_,List.getElem_mem (by omega:k<(RW.syncK k).blocks.length),rfl⟩)
      have:=h.few;omega
     have hsb:=h.setB (vl:=.slice p1 n c) hx hbs hok;have HN:Hid (RW.syncK (k+1)=if 0<n then (RW.syncK k).setB k (jo (RW.syncK k).blocks[k].late (RW.syncK k).blocks[k].settled) else RW.syncK k):=(show _=_ from by
      conv=>lhs;unfold RDk.syncK
      rw[hx,hnn])
     have HSB:=zd hsb;have HL:=zd hl;clear h hx hl hbs hok hsb;generalize (RW.syncK k).blocks[k]=x at *;obtain⟨xs,xl⟩:=x;simp only at *
     by_cases h0:0<n
     ·obtain⟨a,off,rfl,hrs,hc⟩:=HL.out.last h0 xs
      have hag:g≠a:=λe=>hrs.2.2 e.symm
      rw[if_pos h0] at HN;have HN2:=zd HN.out;generalize (RW.syncK k).setB k (jo xl xs)=RS at *;have hnz:=zd hnn;clear hnn HN;obtain⟨n1,rfl⟩:∃n1,n=n1+1:=⟨n-1,by omega⟩
      simp only[Nat.add_sub_cancel] at hc;generalize jo xl xs=z at *;have f1:=hfr (k*2);have f2:=hfr (k*2+1);have b1:(0:Int)≤(n1:Int):=by omega
      have b2:(n1:Int)<(n1:Int)+1:=by omega
      have b3:(0:Int)≤(k:Int):=by omega
      have b4:(k:Int)<(m:Int):=by omega
      have b6:IntKind.i64.wrap (n1:Int)=(n1:Int):=by rw[IntKind.wrap_i64];omega
      have b5:(n1:Int)<((n1+1:Nat):Int):=by omega
      go_upto_region 8 with fail
      go_region_held3 (λw'=>w'.cell? ⟨db,0,none⟩=some (.slice (some ⟨g,0,none⟩) m cap)∧w'.cell? ⟨a,off+n1*2+1,none⟩=some (.string (ofB z))) (first|assumption|go_keep) (fail)
      go_wp2;refine⟨⟨k+1,by omega,by simp,?_,?_⟩,by simp[intOf];omega⟩
      ·exact R18.kept (by rw[HN2.out];exact⟨_,_,HSB.out.1⟩) (zj (zi _))
      ·exact HT.out.trans (HSB.out.2.trans (vh (zj (zi _))))
     ·rw[if_neg h0] at HN
      have hn0:n=0:=by omega
      subst hn0;clear hnn;have HT2:Hid (∃k2:Nat,k2≤m∧(k:Int)+1=k2∧R18 rs wr db (RW.syncK k2)):=(show ∃_,_ from ⟨k+1,by omega,by simp,by rw[HN.out];exact HRK.out⟩)
      go_wp2;refine⟨⟨k+1,by omega,by simp,by rw[HN.out];exact HRK.out,HT.out⟩,by simp[intOf];omega⟩
    ·obtain rfl:k=m:=by omega
     go_wp2
     go_ret
     exact⟨rfl,HRK.out,HT.out⟩
 ·have e1:R.syncV=180:=by unfold RDk.syncV;rw[hgn];rfl
  have e2:R.synced=R:=by unfold RDk.synced;rw[hgn];rfl
  rw[e1,e2];have HR:=zd h;obtain⟨bv,bs,h⟩:=h;obtain⟨c0,c1,c2,c3,y⟩:=h.cells;rw[hgn] at c3;clear h e1 e2 HST
  go_enter Tryz.func110,Tryz.ntmps110
  go_wp2
  go_ret
  exact⟨rfl,HR.out,zm.refl _ _⟩
end
end Go.Proofs.YtbcbhlfjgobejaaGreat
