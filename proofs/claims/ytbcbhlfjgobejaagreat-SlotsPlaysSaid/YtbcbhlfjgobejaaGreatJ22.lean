/- The document's disk: Write: the walk. Conditions: none, or as the theorems say. -/
import Derived.Test.YtbcbhlfjgobejaaGreatJ1
import Derived.Test.YtbcbhlfjgobejaaGreatJ21
set_option linter.unusedSimpArgs false
set_option linter.unusedVariables false
namespace Go.Proofs.YtbcbhlfjgobejaaGreat
set_option maxHeartbeats 200000000
open Go.RowKit Go.Sf Go.Shelf
theorem infoRl:∃(i:TypeInfo) (z:Value) (by_:Nat),Tryz.prog.info? 206=some i∧i.zero=some z∧i.size=2∧i.bytes=by_∧z.cells.size=2∧by_≤1000:=by
 have h:((Tryz.prog.info? 206).bind fun i=>i.zero.map fun z=>(i.size,decide (i.bytes≤1000),z.cells.size))=some (2,true,2):=by kernel_rfl
 cases hi:Tryz.prog.info? 206 with
 | none=>rw[hi] at h;cases h
 | some i=>
  rw[hi] at h
  cases hz:i.zero with
  | none=>simp[hz] at h
  | some z=>
   simp[hz] at h
   exact⟨i,z,_,rfl,hz,h.1,rfl,h.2.2,h.2.1⟩
theorem xn (q:Nat × List Int):∀u∈xt q,u.oneCell'=true:=fun u hu=>by
 simp only[xt,List.mem_cons,List.not_mem_nil,or_false] at hu
 rcases hu with rfl|rfl <;> rfl
theorem zaa (X:World):yo (X.alloc (.cells #[] 206)) 206 2 xt (.slice (some ⟨X.heap.size,0,none⟩) 0 0) []:=
 ⟨rfl,Or.inr ⟨X.heap.size,0,#[],rfl,Nat.zero_le _,heap_alloc_new X _,Nat.le_refl _,by unfold maxLen;omega,rfl,rfl⟩⟩
theorem je (X:World) (q:Nat × List Int) (a b:Value) (ha:a = .int .i64 (q.1:Int)) (hb:b = .string (ofB q.2)):Yx (X.alloc (.cells #[a,b] 206)) xt (.slice (some ⟨X.heap.size,0,none⟩) 1 1) [q]:=by
 subst ha hb;refine⟨_,1,rfl,Or.inr ⟨_,rfl,fun j u hu=>?_⟩⟩
 rw[qe]
 exact(zf (heap_alloc_new X _) j).trans (by simpa[xt] using hu)
theorem uk {X:World} {b k:Nat} (h:X.heap[b]? = some (.cells (zg (List.replicate k 0)).toArray 5 (0,0))):(convert 32 9 (.slice (some ⟨b,0,none⟩) k k)).run Tryz.prog X = .ok (.string (ofB (List.replicate k 0))) X:=by
 have hr:yi X (.slice (some ⟨b,0,none⟩) (List.replicate k (0:Int)).length k) (List.replicate k 0):=⟨_,_,rfl,Or.inr ⟨_,rfl,fun j u hu=>by
  rw[qe]
  exact(zf h j).trans (by simpa using hu)⟩⟩
 have:=Yy hr;rw[List.length_replicate] at this
 exact this
theorem qc {rs:Nat→Prop} {W w1 w2:World} (h:zm rs W w1) (g:zm (vk rs W w1) w1 w2):zm rs W w2:=
 ⟨g.os.trans h.os,g.tape.trans h.tape,g.output.trans h.output,Nat.le_trans h.size g.size,fun k hk hn=>(g.block k (Nat.lt_of_lt_of_le hk h.size) (fun e=>e.elim hn (fun e=>by omega))).trans (h.block k hk hn)⟩
theorem R18.newer {rs:Nat→Prop} {W w1 w2:World} {db:Nat} {R:RDk} (h:R18 (vk rs W w1) w2 db R) (h0:∀k,rs k→k<W.heap.size) (h1:W.heap.size≤w1.heap.size) (h2:w1.heap.size≤w2.heap.size):R18 (vk rs W w2) w2 db R:=h.up (fun k hk=>hk.imp id fun e=>⟨e.1,by omega⟩) (fun k hk=>by
 rcases hk with e|e
 ·have:=h0 k e
  omega
 ·exact e.2)
section
variable {rs rs' : Nat → Prop} {W W' : World} {db : Nat} {bv : Value} {bs : List (List Int × Value)} {R R' : RDk}
theorem Yv.y {v:Value} {m:List (Nat × List Int)} {Y:World} (h:Yv rs W v m) (hg:W.grownBy Y none):Yx Y xt v m:=by
 obtain⟨p,cap,rfl,hc⟩:=h;refine⟨p,cap,rfl,?_⟩
 rcases hc with h0|⟨b,off,rfl,-,h2⟩
 ·exact Or.inl h0
 ·exact Or.inr ⟨⟨b,off,none⟩,rfl,fun j u hu=>by rw[ze8];exact hg.cell (h2 j u hu) (by simp)⟩
theorem zkw {Y:World} {v:Value} {m:List (Nat × List Int)} (h:yo Y 206 2 xt v m) {P:Nat→Prop} (hP:∀k,v.ownBlock=some k→P k):Yv P Y v m:=by
 obtain⟨p,cap,e,hcm,hlc⟩:=h.form;refine⟨p,cap,e,?_⟩
 rcases yo.at yv h with h0|⟨g,c,e2,_,_⟩
 ·exact Or.inl h0
 ·rw[e2] at e
  injection e with e1
  refine Or.inr ⟨g,0,e1.symm,hP g (by rw[e2];rfl),fun j u hu=>?_⟩
  rw[Nat.zero_add,←qe];have h0:Y.ownsRow 0 206 2 v m.length (m.flatMap xt):=h;rw[e2] at h0
  exact h0.cells (g:=g) rfl j u hu
theorem um.lay {g cap i n c:Nat} {p:Option Addr} {x:zbg} {z:List Int} {Y:World} {v:Value} (h:um rs W db (.slice (some ⟨g,0,none⟩) R.blocks.length cap) bs R) (hx:R.blocks[i]? = some x) (hb:bs[i]? = some (x.settled,.slice p n c)) (hg:W.grownBy Y none)
  (hr:yo Y 206 2 xt v (x.late ++ [(yf R,z)])) (ho:∀b,v.ownBlock=some b→W.heap.size≤b) (hz:z.length=256∧BL z) (hf:yf R<1000000) (hs:yf (R.lay i z)=yf R+1) :
  um (vk rs W (Y.setCell ⟨g,i*2+1,none⟩ v)) (Y.setCell ⟨g,i*2+1,none⟩ v) db (.slice (some ⟨g,0,none⟩) R.blocks.length cap) (bs.set i (x.settled,v)) (R.lay i z)∧zm rs W (Y.setCell ⟨g,i*2+1,none⟩ v):=by
 have hgs:=zw Y g (i*2+1) v;have hlen:(R.lay i z).blocks.length=R.blocks.length:=by simp[RDk.lay]
 have hi:i<bs.length:=(List.getElem?_eq_some_iff.1 hb).1;have hbi:bs[i]=(x.settled,.slice p n c):=(List.getElem?_eq_some_iff.1 hb).2;have hgd:g≠db:=fun e=>h.ne (by rw[←e];rfl)
 have hgr:=h.rbv g rfl;have hgl:=h.lt g hgr;have hsz:Y.heap.size=(Y.setCell ⟨g,i*2+1,none⟩ v).heap.size:=by simp[World.setCell]
 have hold:∀k,rs k→k≠g→(Y.setCell ⟨g,i*2+1,none⟩ v).heap[k]? = W.heap[k]?:=fun k hk hne=>(hgs.block k (Nat.lt_of_lt_of_le (h.lt k hk) hg.size) (fun e=>hne (by injection e))).trans (hg.block k (h.lt k hk) (by simp))
 refine⟨⟨(hold db h.rdb (fun e=>hgd e.symm)).trans h.box,?_,by rw[List.length_set,hlen];exact h.len,fun j y w hy hw=>?_,Or.inl h.rdb,fun k hk=>Or.inl (h.rbv k hk),fun k hk=>?_,by rw[hlen];exact h.n,h.w0,h.w1,fun y hy=>?_,by rw[hs];omega⟩,?_⟩
 ·have hrow:=h.row.grown hg (by simp)
  rw[←h.len] at hrow ⊢
  exact yo.set Vy hrow i 1 hi (by omega) (x.settled,v) v (by rw[hbi];rfl)
 ·rcases Nat.decEq j i with hne|rfl
  ·rw[List.getElem?_set_ne (fun e=>hne e.symm)] at hw
   have hy':R.blocks[j]? = some y:=by
    simp only[RDk.lay,List.getElem?_modify] at hy
    cases e:R.blocks[j]? with
    | none=>rw[e] at hy;simp at hy
    | some b=>
     have hne2:¬i=j:=fun e=>hne e.symm
     rw[e] at hy;simpa[hne2] using hy
   obtain⟨a1,a2⟩:=h.at_ j y w hy' hw
   exact⟨a1,(a2.turn fun k hk=>hold k hk.1 (fun e=>hk.2.2 (by rw[e];rfl))).mono fun k hk=>⟨Or.inl hk.1,hk.2⟩⟩
  ·rw[List.getElem?_set_self hi] at hw
   cases hw
   simp only[RDk.lay,List.getElem?_modify,hx] at hy;simp at hy;subst hy;refine⟨rfl,?_⟩;have hvl:∀k,v.ownBlock=some k→k<Y.heap.size:=fun k hk=>hr.lt hk
   refine zkw (hr.grown hgs (fun b hb e=>?_)) (fun k hk=>?_)
   ·cases e
    have:=ho g hb;omega
   ·have h1:=ho k hk
    have h2:=h.lt db h.rdb;refine⟨Or.inr ⟨h1,by rw[←hsz];exact hvl k hk⟩,by omega,?_⟩
    intro e;have e2:g=k:=by simpa[Value.ownBlock] using e
    omega
 ·rcases hk with e|e
  ·rw[←hsz];exact Nat.lt_of_lt_of_le (h.lt k e) hg.size
  ·exact e.2
 ·simp only[RDk.lay] at hy
  obtain⟨j,hj⟩:=List.getElem?_of_mem hy;rw[List.getElem?_modify] at hj
  cases e:R.blocks[j]? with
  | none=>rw[e] at hj;simp at hj
  | some b=>
   rw[e] at hj;obtain⟨o1,o2⟩:=h.ok b (List.mem_of_getElem? e)
   by_cases hij:i=j
   ·simp[hij] at hj
    subst hj;refine⟨o1,fun w hw=>?_⟩
    rcases List.mem_append.1 hw with h1|h1
    ·exact o2 w h1
    ·rw[List.mem_singleton.1 h1];exact hz
   ·simp[hij] at hj
    subst hj
    exact⟨o1,o2⟩
 ·exact⟨hgs.os.trans hg.os,hgs.tape.trans hg.tape,hgs.output.trans hg.output,Nat.le_trans hg.size hgs.size,fun k hk hn=>(hgs.block k (Nat.lt_of_lt_of_le hk hg.size) (fun e=>hn (by injection e with e;rw[e];exact hgr))).trans (hg.block k hk (by simp))⟩
theorem zf3 (R:RDk) {i:Nat} (hi:i<R.blocks.length) (z:List Int):yf (R.lay i z)=yf R+1:=by
 have key:∀(l:List zbg) (f:zbg→zbg) (i:Nat),i<l.length→(∀b,(f b).late.length=b.late.length+1)→((l.modify i f).map fun b=>b.late.length).sum=(l.map fun b=>b.late.length).sum+1:=by
  intro l f
  induction l with
  | nil=>intro i hi;simp at hi
  | cons a t ih=>
   intro i hi hf
   cases i with
   | zero=>simp[hf];omega
   | succ i=>
    have:=ih i (by simpa using hi) hf
    simp only[List.modify_succ_cons,List.map_cons,List.sum_cons,this];omega
 unfold yf
 exact key R.blocks _ i hi (fun b=>by simp)
def RDk.writeV (R:RDk) (i:Int) (b:List Int):Int:=if R.mayE i≠0 then R.mayE i else if 256<b.length then 3 else if (R.lay i.toNat (vr b)).stepB=true then 0 else 180
def RDk.written (R:RDk) (i:Int) (b:List Int):RDk:=if R.mayE i=0∧b.length≤256 then (if (R.lay i.toNat (vr b)).stepB=true then (R.lay i.toNat (vr b)).went else (R.lay i.toNat (vr b)).fell) else R
theorem pad_str {s:ByteArray} (hs:s.size≤256):s++ofB (List.replicate (256-s.size) 0)=ofB (vr (xu s)):=by
 unfold vr;rw[←zeq,zmd,vd]
set_option maxRecDepth 100000 in
theorem zdy (h:R18 rs W db R) (i:Int) (s:ByteArray) (hs:s.size≤9223372036854775807) (hno:R.mayE i≠0∨256<s.size):Calls Tryz.prog 44 #[.pointer (some ⟨db,0,none⟩),.int .i64 i,.string s] W fun e w'=>e = .returned (.int .i64 (R.writeV i (xu s)))∧R18 (vk rs W w') w' db (R.written i (xu s))∧zm rs W w':=by
 have HM2:Hid (Calls Tryz.prog 117 #[.pointer (some ⟨db,0,none⟩),.int .i64 i] W fun e w'=>e = .returned (.int .i64 (R.mayE i))∧w'=W):=(show Calls _ _ _ _ _ from rmay h i 0)
 have HE:Hid (R18 (vk rs W W) W db (R.written i (xu s))∧zm rs W W):=(show _∧_ from ⟨by
  unfold RDk.written;rw[if_neg (fun e=>hno.elim (fun h1=>h1 e.1) (fun h1=>by rw[vd] at e;omega))]
  exact h.new (zj _),zm.refl _ _⟩)
 have hv:R.writeV i (xu s)=if R.mayE i≠0 then R.mayE i else 3:=by
  unfold RDk.writeV;rw[vd]
  rcases hno with h1|h1
  ·rw[if_pos h1,if_pos h1]
  ·split
   ·rfl
   ·first|rfl|rw[if_pos h1]
 rw[hv];clear h hv;generalize R.mayE i=ev at *;generalize R.written i (xu s)=R9 at *;have hsz:∃n,n=s.size:=⟨_,rfl⟩
 by_cases he:ev=0
 ·have h2:256<s.size:=hno.resolve_left (fun h=>h he)
  subst he
  go_enter Tryz.func44,Tryz.ntmps44
  go_wp2_with (go_at_call 117;refine HM2.out.mono ?_;rintro e w1 ⟨rfl,h5⟩;obtain rfl:W=w1:=h5.symm)
  go_ret
  exact⟨rfl,HE.out⟩
 ·rw[if_pos he]
  clear hno
  go_enter Tryz.func44,Tryz.ntmps44
  go_wp2_with (go_at_call 117;refine HM2.out.mono ?_;rintro e w1 ⟨rfl,h5⟩;obtain rfl:W=w1:=h5.symm)
  go_ret
  exact⟨rfl,HE.out⟩
set_option maxRecDepth 100000 in
theorem zkn (h:R18 rs W db R) (i:Nat) (hm:R.mayE (i:Int)=0) (s:ByteArray) (hs:s.size≤256) (hf:yf R<1000000):Calls Tryz.prog 44 #[.pointer (some ⟨db,0,none⟩),.int .i64 (i:Int),.string s] W fun e w'=>e = .returned (.int .i64 (if (R.lay i (vr (xu s))).stepB=true then 0 else 180))∧R18 (vk rs W w') w' db (if (R.lay i (vr (xu s))).stepB=true then (R.lay i (vr (xu s))).went else (R.lay i (vr (xu s))).fell)∧zm rs W w':=by
 have HM2:Hid (Calls Tryz.prog 117 #[.pointer (some ⟨db,0,none⟩),.int .i64 (i:Int)] W fun e w'=>e = .returned (.int .i64 0)∧w'=W):=(show Calls _ _ _ _ _ from by rw[←hm];exact rmay h i 0)
 have HO:Hid (∀w,W.grownBy w none→Calls Tryz.prog 118 #[.pointer (some ⟨db,0,none⟩)] w fun e w'=>e = .returned (.int .i64 (yf R:Int))∧w'=w):=(show ∀w,_→Calls _ _ _ _ _ from fun w hg=>ropen18 (h.kept hg))
 obtain⟨i0,z0,by0,hi,hz0,hz1,hz2,hz3,hz4⟩:=infoRl;obtain⟨hgn,k,hk0,hik⟩:=zi1 R _ hm;obtain rfl:i=k:=by omega
 clear hk0 hm;have HRL:Hid (∀k,rs k→k<W.heap.size):=(show ∀_,_ from fun k hk=>h.lt hk)
 obtain⟨bv,bs,h⟩:=h;have hx:R.blocks[i]? = some R.blocks[i]:=List.getElem?_eq_getElem hik;obtain⟨g,cap,p,n,c,rfl,-,cs,cl,hn,hl,hfr,hbs,hgd⟩:=h.blk hx;have hfew:n≤1000000:=by
  have:n≤yf R:=by
   rw[hn];unfold yf
   exact Yf _ _ (List.mem_map.2 ⟨_,List.getElem_mem hik,rfl⟩)
  omega
 have hm4:=h.n;obtain⟨c0,c1,c2,c3,y⟩:=h.cells;have HL:=zd hl;have HN:=zd hn;have hps:=pad_str hs;have hz:(vr (xu s)).length=256∧BL (vr (xu s)):=⟨Qo (by rw[vd];exact hs),zix (ze0 s)⟩
 have HLAY:Hid (∀(Y:World) (v:Value),W.grownBy Y none→yo Y 206 2 xt v (R.blocks[i].late ++ [(yf R,vr (xu s))])→(∀b,v.ownBlock=some b→W.heap.size≤b)→R18 (vk rs W (Y.setCell ⟨g,i*2+1,none⟩ v)) (Y.setCell ⟨g,i*2+1,none⟩ v) db (R.lay i (vr (xu s)))∧zm rs W (Y.setCell ⟨g,i*2+1,none⟩ v)):=(fun Y v a1 a2 a3=>by
  have:=h.lay hx hbs a1 a2 a3 hz hf (zf3 R hik _)
  exact⟨⟨_,_,this.1⟩,this.2⟩)
 have HB2:Hid (g<W.heap.size∧db<W.heap.size):=(show _∧_ from ⟨h.lt g (h.rbv g rfl),h.lt db h.rdb⟩)
 have hmk:=Vo (256-s.size) (by omega)
 have hsm:¬(9223372036854775807<s.size+(ofB (List.replicate (256-s.size) 0)).size):=by rw[xr,List.length_replicate];omega
 have hsub:(256:Int)-(s.size:Int)=((256-s.size:Nat):Int):=by omega
 have hwr:IntKind.i64.wrap ((256-s.size:Nat):Int)=((256-s.size:Nat):Int):=by rw[IntKind.wrap_i64];omega
 have HF:=zd hf;clear h hx hl hbs hz hf;generalize R.blocks[i]=x at *;obtain⟨xs,xl⟩:=x;simp only at *;generalize hmm:R.blocks.length=m at *;clear hmm;generalize hL:R.lay i (vr (xu s))=RL at *;clear hL;generalize hoo:yf R=oo at *;clear hoo;have HEND:Hid (∀w,R18 (vk rs W w) w db RL→zm rs W w→Calls Tryz.prog 119 #[.pointer (some ⟨db,0,none⟩)] w fun e w'=>e = .returned (.bool RL.stepB)∧R18 (vk rs W w') w' db (if RL.stepB=true then RL.went else RL.fell)∧zm rs W w'):=(show ∀w,_→_→Calls _ _ _ _ _ from fun w hr ht=>by
  refine(rstep hr).mono ?_;rintro e w' ⟨rfl,h1,h2⟩
  exact⟨rfl,h1.newer HRL.out ht.size h2.size,qc ht h2⟩)
 generalize (if RL.stepB=true then RL.went else RL.fell)=RE at *
 generalize RL.stepB=sb at *;generalize vr (xu s)=zz at *;have hzn:256-s.size≤256:=by omega
 generalize 256-s.size=zn at *;clear hn
 go_enter Tryz.func44,Tryz.ntmps44
 go_upto_region 7 with (go_at_call 117;refine HM2.out.mono ?_;rintro e w1 ⟨rfl,h5⟩;obtain rfl:W=w1:=h5.symm)
 have h1g:=ze W (.cells #[.string (ofB xs),.slice p n c] 188) none;have h1n:=heap_alloc_new W (.cells #[.string (ofB xs),.slice p n c] 188);have h1s:(W.alloc (.cells #[.string (ofB xs),.slice p n c] 188)).heap.size=W.heap.size+1:=by simp
 generalize W.alloc (.cells #[.string (ofB xs),.slice p n c] 188)=W1 at *;have HG1:=zd h1g;have HS1:=zd h1s;have HS:Hid (∀w':World,W1.grownBy w' none→w'.cell? ⟨db,0,none⟩=some (.slice (some ⟨g,0,none⟩) m cap)∧w'.cell? ⟨W.heap.size,1,none⟩=some (.slice p n c)):=(show ∀_,_→_∧_ from fun w' hg=>⟨(zh h1g hg).cell c0 (by simp),hg.cell ((zf h1n 1).trans rfl) (by simp)⟩)
 have HST:Hid (∀w':World,W1.grownBy w' none→w'.cell? ⟨g,i*2+1,none⟩=some (.slice p n c)∧w'.frozen? ⟨g,i*2+1,none⟩=false):=(show ∀_,_→_∧_ from fun w' hg=>by
  have hg2:=zh h1g hg;refine⟨hg2.cell cl (by simp),?_⟩
  have hb:=hg2.block g HB2.out.1 (by simp)
  rw[←hfr (i*2+1)];unfold World.frozen?;simp only[hb])
 clear h1g h1n h1s cs cl c0;have HMB:Hid (g<W.heap.size∧db<W.heap.size∧W.heap.size<W1.heap.size):=(show _∧_ from ⟨HB2.out.1,HB2.out.2,by rw[HS1.out];omega⟩)
 obtain⟨mb,hmb⟩:∃mb,mb=W.heap.size:=⟨_,rfl⟩;have HMBE:=zd hmb;rw[←hmb] at HS HMB ⊢;clear hmb HB2 HS1;have HG:Hid (W1.grownBy W1.drew none):=(show World.grownBy _ _ _ from zk (zj _))
 refine wp_region_held_drew (S:=fun w':World=>w'.cell? ⟨db,0,none⟩=some (.slice (some ⟨g,0,none⟩) m cap)∧w'.cell? ⟨mb,1,none⟩=some (.slice p n c)) (by kernel_rfl) (HS.out _ HG.out) (fun hHeld=>?_)
 generalize W1.drew=W2 at *;refine tk (i:=0) (oi:=⟨some 29,Op.move (Operand.tmp 0),_,_,_,none⟩) (v:=?_) rfl hHeld ?_ ?_;rotate_left
 ·rintro w ⟨s1,s2⟩;go_simp;try with_reducible rfl
 (try simp only[Act.put,za,zb,zc])
 refine tk (i:=4) (oi:=⟨some 33,Op.move (Operand.tmp 1),_,_,_,none⟩) (v:=?_) rfl hHeld ?_ ?_;rotate_left
 ·rintro w ⟨s1,s2⟩;go_simp;try with_reducible rfl
 (try simp only[Act.put,za,zb,zc])
 refine tk (i:=6) (oi:=⟨some 35,Op.fieldAddr 188 (Operand.tmp 8) 1,_,_,_,none⟩) (v:=?_) rfl hHeld ?_ ?_;rotate_left
 ·rintro w ⟨s1,s2⟩;go_simp;try with_reducible rfl
 (try simp only[Act.put,za,zb,zc])
 refine tk (i:=9) (oi:=⟨some 38,Op.move (Operand.tmp 0),_,_,_,none⟩) (v:=?_) rfl hHeld ?_ ?_;rotate_left
 ·rintro w ⟨s1,s2⟩;go_simp;try with_reducible rfl
 (try simp only[Act.put,za,zb,zc])
 refine tk (i:=11) (oi:=⟨some 40,Op.move (Operand.tmp 2),_,_,_,none⟩) (v:=?_) rfl hHeld ?_ ?_;rotate_left
 ·rintro w ⟨s1,s2⟩;go_simp;try with_reducible rfl
 (try simp only[Act.put,za,zb,zc])
 refine tk (i:=12) (oi:=⟨some 41,Op.move (Operand.tmp 2),_,_,_,none⟩) (v:=?_) rfl hHeld ?_ ?_;rotate_left
 ·rintro w ⟨s1,s2⟩;go_simp;try with_reducible rfl
 (try simp only[Act.put,za,zb,zc])
 refine tk (i:=1) (oi:=⟨some 30,Op.nilCheck (Operand.tmp 29),_,_,_,none⟩) (v:=?_) rfl hHeld ?_ ?_;rotate_left
 ·rintro w ⟨s1,s2⟩;go_simp;try with_reducible rfl
 (try simp only[Act.put,za,zb,zc])
 refine tk (i:=7) (oi:=⟨some 36,Op.load 186 (Operand.tmp 35),_,_,_,none⟩) (v:=?_) rfl hHeld ?_ ?_;rotate_left
 ·rintro w ⟨s1,s2⟩;go_simp;try with_reducible rfl
 (try simp only[Act.put,za,zb,zc])
 refine tk (i:=13) (oi:=⟨some 42,Op.call { callee:=Callee.builtin Builtin.len,args:=#[Operand.tmp 41],argTypes:=#[9] },_,_,_,none⟩) (v:=?_) rfl hHeld ?_ ?_;rotate_left
 ·rintro w ⟨s1,s2⟩;go_simp;try with_reducible rfl
 (try simp only[Act.put,za,zb,zc])
 refine tk (i:=2) (oi:=⟨some 31,Op.fieldAddr 185 (Operand.tmp 30) 0,_,_,_,none⟩) (v:=?_) rfl hHeld ?_ ?_;rotate_left
 ·rintro w ⟨s1,s2⟩;go_simp;try with_reducible rfl
 (try simp only[Act.put,za,zb,zc])
 refine tk (i:=14) (oi:=⟨some 43,Op.binOp BinOp.sub 3 (Operand.const (Value.int IntKind.i64 256)) (Operand.tmp 42) 3,_,_,_,none⟩) (v:=?_) rfl hHeld ?_ ?_;rotate_left
 ·rintro w ⟨s1,s2⟩;go_simp;try with_reducible rfl
 (try simp only[Act.put,za,zb,zc])
 refine tk (i:=3) (oi:=⟨some 32,Op.load 183 (Operand.tmp 31),_,_,_,none⟩) (v:=?_) rfl hHeld ?_ ?_;rotate_left
 ·rintro w ⟨s1,s2⟩;go_simp;try with_reducible rfl
 (try simp only[Act.put,za,zb,zc])
 refine wpAnyH_ready (rs:=[5,15]) (by kernel_rfl) (by simp) ?_
 refine(AllReadyH.cons (o:=⟨some 34,Op.buildSlice 186 0 #[],_,_,_,none⟩) rfl (fun K hK=>?_) (AllReadyH.cons (o:=⟨some 44,Op.makeSlice 32 (Operand.tmp 43) (Operand.tmp 43),_,_,_,none⟩) rfl (fun K hK=>?_) AllReadyH.nil))
 ·go_simp
  have hgb:=ze W2 (.cells #[] 206) none;have hsz:=HG.out.size;have HA:=zd (zaa W2)
  try replace HA:=zd (yo.grown HA.out hgb (by simp))
  try replace HB:=zd ((hgb.block _ (Array.getElem?_eq_some_iff.1 HB.out).1 (by simp)).trans HB.out)
  replace HG:=zd (zh HG.out hgb);have HP5:Hid (W1.heap.size≤W2.heap.size):=(show _≤_ from hsz)
  clear hgb hsz;generalize W2.alloc (.cells #[] 206)=w5 at *;generalize W2.heap.size=b5 at *;refine hK.out _ _ (HS.out _ HG.out) (fun hHeld=>?_)
  clear hK K
  (try simp only[Act.put,za,zb,zc])
  refine wpAnyH_ready (rs:=[8,15]) (by kernel_rfl) (by simp) ?_
  refine(AllReadyH.cons (o:=⟨some 37,Op.call { callee:=Callee.builtin Builtin.append,args:=#[Operand.tmp 34,Operand.tmp 36],argTypes:=#[186,186] },_,_,_,none⟩) rfl (fun K hK=>?_) (AllReadyH.cons (o:=⟨some 44,Op.makeSlice 32 (Operand.tmp 43) (Operand.tmp 43),_,_,_,none⟩) rfl (fun K hK=>?_) AllReadyH.nil))
  ·refine xc (E:=206) (sz:=2) (enc:=xt) (v:=.slice (some ⟨b5,0,none⟩) 0 0) (l:=[]) (m:=xl) rfl _ _ 186 rfl yv xn i0 z0 by0 Tryz.underlying186 hi hz0 hz1 hz2 hz3 (by decide) hz4 rfl HA.out rfl (HL.out.y (zh HG1.out HG.out)) (by have:=HN.out;have:=HF.out;simp;omega) (n) (by have:=HN.out;simp;try omega) ?_
   intro p8 c8 w8 hap;have HG9:=zd (yd HG.out hap.2.1 (fun b hb=>by have:=HP5.out;simp[Value.ownBlock] at hb;omega))
   have HO8:Hid (∀b,(Value.slice p8 (n) c8).ownBlock=some b→W1.heap.size≤b):=(fun b hb=>by
    rcases hap.2.2 with e|e
    ·have hv:=HP5.out
     rw[hb] at e;simp[Value.ownBlock] at e;omega
    ·rw[hb] at e
     injection e with e
     have:=HG.out.size;omega)
   have HA9:=zd hap.1;clear HA HG hap;have HA:=zd HA9.out;have HG:=zd HG9.out;clear HA9 HG9;refine hK.out _ _ (HS.out _ HG.out) (fun hHeld=>?_)
   clear hK K
   (try simp only[Act.put,za,zb,zc])
   refine wpAnyH_ready (rs:=[10,15]) (by kernel_rfl) (by simp) ?_
   refine(AllReadyH.cons (o:=⟨some 39,Op.call { callee:=Callee.value (Operand.func 118),args:=#[Operand.tmp 38],argTypes:=#[60] },_,_,_,none⟩) rfl (fun K hK=>?_) (AllReadyH.cons (o:=⟨some 44,Op.makeSlice 32 (Operand.tmp 43) (Operand.tmp 43),_,_,_,none⟩) rfl (fun K hK=>?_) AllReadyH.nil))
   ·go_simp
    refine(HO.out _ (zh HG1.out HG.out)).mono ?_;rintro e w10 ⟨rfl,h5⟩;obtain rfl:w8=w10:=h5.symm;refine hK.out _ _ (HS.out _ HG.out) (fun hHeld=>?_)
    clear hK K
    (try simp only[Act.put,za,zb,zc])
    refine wpAnyH_ready (rs:=[15]) (by kernel_rfl) (by simp) ?_
    refine(AllReadyH.cons (o:=⟨some 44,Op.makeSlice 32 (Operand.tmp 43) (Operand.tmp 43),_,_,_,none⟩) rfl (fun K hK=>?_) AllReadyH.nil)
    go_simp
    have hgb:=ze w8 (.cells (zg (List.replicate zn 0)).toArray 5) none;have hsz:=HG.out.size;have HB:=zd (heap_alloc_new w8 (.cells (zg (List.replicate zn 0)).toArray 5))
    try replace HA:=zd (yo.grown HA.out hgb (by simp))
    try replace HB:=zd ((hgb.block _ (Array.getElem?_eq_some_iff.1 HB.out).1 (by simp)).trans HB.out)
    replace HG:=zd (zh HG.out hgb);have HP15:Hid (W1.heap.size≤w8.heap.size):=(show _≤_ from hsz)
    clear hgb hsz;generalize w8.alloc (.cells (zg (List.replicate zn 0)).toArray 5)=w15 at *;generalize w8.heap.size=b15 at *;refine hK.out _ _ (HS.out _ HG.out) (fun hHeld=>?_)
    clear hK K
    (try simp only[Act.put,za,zb,zc])
    refine wpAnyH_ready (rs:=[16]) (by kernel_rfl) (by simp) ?_
    refine(AllReadyH.cons (o:=⟨some 45,Op.convert 32 9 (Operand.tmp 44),_,_,_,none⟩) rfl (fun K hK=>?_) AllReadyH.nil)
    have hcv:=uk HB.out
    go_simp
    clear hcv;refine hK.out _ _ (HS.out _ HG.out) (fun hHeld=>?_)
    clear hK K
    (try simp only[Act.put,za,zb,zc])
    refine tk (i:=17) (oi:=⟨some 46,Op.binOp BinOp.add 9 (Operand.tmp 40) (Operand.tmp 45) 9,_,_,_,none⟩) (v:=?_) rfl hHeld ?_ ?_;rotate_left
    ·rintro w ⟨s1,s2⟩;go_simp;try with_reducible rfl
    (try simp only[Act.put,za,zb,zc])
    refine tk (i:=18) (oi:=⟨some 47,Op.build 206 #[(0,Operand.tmp 39),(1,Operand.tmp 46)],_,_,_,none⟩) (v:=?_) rfl hHeld ?_ ?_;rotate_left
    ·rintro w ⟨s1,s2⟩;go_simp;try with_reducible rfl
    (try simp only[Act.put,za,zb,zc])
    refine wpAnyH_ready (rs:=[19]) (by kernel_rfl) (by simp) ?_
    refine(AllReadyH.cons (o:=⟨some 48,Op.buildSlice 186 1 #[(0,Operand.tmp 47)],_,_,_,none⟩) rfl (fun K hK=>?_) AllReadyH.nil)
    go_simp
    have hgb:=ze w15 (.cells #[.int .i64 (oo:Int),.string (ofB zz)] 206) none;have hsz:=HG.out.size;have HY:=zd (je w15 (oo,zz) _ _ rfl rfl)
    try replace HA:=zd (yo.grown HA.out hgb (by simp))
    try replace HB:=zd ((hgb.block _ (Array.getElem?_eq_some_iff.1 HB.out).1 (by simp)).trans HB.out)
    replace HG:=zd (zh HG.out hgb);have HP19:Hid (W1.heap.size≤w15.heap.size):=(show _≤_ from hsz)
    clear hgb hsz;generalize w15.alloc (.cells #[.int .i64 (oo:Int),.string (ofB zz)] 206)=w19 at *;generalize w15.heap.size=b19 at *;refine hK.out _ _ (HS.out _ HG.out) (fun hHeld=>?_)
    clear hK K
    (try simp only[Act.put,za,zb,zc])
    refine wpAnyH_ready (rs:=[20]) (by kernel_rfl) (by simp) ?_
    refine(AllReadyH.cons (o:=⟨some 49,Op.call { callee:=Callee.builtin Builtin.append,args:=#[Operand.tmp 37,Operand.tmp 48],argTypes:=#[186,186] },_,_,_,none⟩) rfl (fun K hK=>?_) AllReadyH.nil)
    refine xc (E:=206) (sz:=2) (enc:=xt) (v:=.slice p8 n c8) (l:=xl) (m:=[(oo,zz)]) rfl _ _ 186 rfl yv xn i0 z0 by0 Tryz.underlying186 hi hz0 hz1 hz2 hz3 (by decide) hz4 rfl HA.out rfl HY.out (by have:=HN.out;have:=HF.out;simp;omega) (n+1) (by have:=HN.out;simp;try omega) ?_
    intro p20 c20 w20 hap;have HG9:=zd (yd HG.out hap.2.1 (fun b hb=>HO8.out b hb))
    have HO20:Hid (∀b,(Value.slice p20 (n+1) c20).ownBlock=some b→W1.heap.size≤b):=(fun b hb=>by
     rcases hap.2.2 with e|e
     ·have hv:=HO8.out
      rw[hb] at e
      exact hv b e.symm
     ·rw[hb] at e
      injection e with e
      have:=HG.out.size;omega)
    have HA9:=zd hap.1;clear HA HG hap;have HA:=zd HA9.out;have HG:=zd HG9.out;clear HA9 HG9;refine hK.out _ _ (HS.out _ HG.out) (fun hHeld=>?_)
    clear hK K
    (try simp only[Act.put,za,zb,zc])
    refine tk (i:=21) (oi:=⟨some 50,Op.indexAddr 183 (Operand.tmp 32) (Operand.tmp 33),_,_,_,none⟩) (v:=?_) rfl hHeld ?_ ?_;rotate_left
    ·rintro w ⟨s1,s2⟩;go_simp;try with_reducible rfl
    (try simp only[Act.put,za,zb,zc])
    refine tk (i:=22) (oi:=⟨some 51,Op.fieldAddr 188 (Operand.tmp 50) 1,_,_,_,none⟩) (v:=?_) rfl hHeld ?_ ?_;rotate_left
    ·rintro w ⟨s1,s2⟩;go_simp;try with_reducible rfl
    (try simp only[Act.put,za,zb,zc])
    refine wpAnyH_ready (rs:=[23]) (by kernel_rfl) (by simp) ?_
    refine(AllReadyH.cons (o:=⟨none,Op.store 186 (Operand.tmp 51) (Operand.tmp 49),_,_,_,none⟩) rfl (fun K hK=>?_) AllReadyH.nil)
    obtain⟨st1,st2⟩:=HST.out _ HG.out
    go_simp
    have HF9:=zd (HLAY.out w20 (.slice p20 (n+1) c20) (zh HG1.out HG.out) HA.out (fun b hb=>Nat.le_trans HG1.out.size (HO20.out b hb)))
    refine hK.out _ _ ⟨ya (b2:=db) (b:=g) (Or.inl (fun e=>hgd e.symm)) (HS.out _ HG.out).1,ya (b2:=mb) (b:=g) (Or.inl (by have:=HMB.out;omega)) (HS.out _ HG.out).2⟩ (fun hHeld=>?_)
    clear hK K
    (try simp only[Act.put,za,zb,zc])
    refine wpAnyH_done (by kernel_rfl) ?_ _
    clear hHeld;have HF10:=HF9;clear HA HG HF9 HP5 HP15 HP19 HO8 HO20 HY HB
    cases sb
    ·go_wp2_with (go_at_call 119;refine(HEND.out _ HF10.out.1 HF10.out.2).mono ?_;rintro e w22 ⟨rfl,hr,ht⟩;have HR:=zd hr;have HT:=zd ht;clear hr ht)
     go_ret
     exact⟨rfl,HR.out,HT.out⟩
    ·go_wp2_with (go_at_call 119;refine(HEND.out _ HF10.out.1 HF10.out.2).mono ?_;rintro e w22 ⟨rfl,hr,ht⟩;have HR:=zd hr;have HT:=zd ht;clear hr ht)
     go_ret
     exact⟨rfl,HR.out,HT.out⟩
   ·go_simp
    have hgb:=ze w8 (.cells (zg (List.replicate zn 0)).toArray 5) none;have hsz:=HG.out.size;have HB:=zd (heap_alloc_new w8 (.cells (zg (List.replicate zn 0)).toArray 5))
    try replace HA:=zd (yo.grown HA.out hgb (by simp))
    try replace HB:=zd ((hgb.block _ (Array.getElem?_eq_some_iff.1 HB.out).1 (by simp)).trans HB.out)
    replace HG:=zd (zh HG.out hgb);have HP15:Hid (W1.heap.size≤w8.heap.size):=(show _≤_ from hsz)
    clear hgb hsz;generalize w8.alloc (.cells (zg (List.replicate zn 0)).toArray 5)=w15 at *;generalize w8.heap.size=b15 at *;refine hK.out _ _ (HS.out _ HG.out) (fun hHeld=>?_)
    clear hK K
    (try simp only[Act.put,za,zb,zc])
    refine wpAnyH_ready (rs:=[10,16]) (by kernel_rfl) (by simp) ?_
    refine(AllReadyH.cons (o:=⟨some 39,Op.call { callee:=Callee.value (Operand.func 118),args:=#[Operand.tmp 38],argTypes:=#[60] },_,_,_,none⟩) rfl (fun K hK=>?_) (AllReadyH.cons (o:=⟨some 45,Op.convert 32 9 (Operand.tmp 44),_,_,_,none⟩) rfl (fun K hK=>?_) AllReadyH.nil))
    ·go_simp
     refine(HO.out _ (zh HG1.out HG.out)).mono ?_;rintro e w10 ⟨rfl,h5⟩;obtain rfl:w15=w10:=h5.symm;refine hK.out _ _ (HS.out _ HG.out) (fun hHeld=>?_)
     clear hK K
     (try simp only[Act.put,za,zb,zc])
     refine wpAnyH_ready (rs:=[16]) (by kernel_rfl) (by simp) ?_
     refine(AllReadyH.cons (o:=⟨some 45,Op.convert 32 9 (Operand.tmp 44),_,_,_,none⟩) rfl (fun K hK=>?_) AllReadyH.nil)
     have hcv:=uk HB.out
     go_simp
     clear hcv;refine hK.out _ _ (HS.out _ HG.out) (fun hHeld=>?_)
     clear hK K
     (try simp only[Act.put,za,zb,zc])
     refine tk (i:=17) (oi:=⟨some 46,Op.binOp BinOp.add 9 (Operand.tmp 40) (Operand.tmp 45) 9,_,_,_,none⟩) (v:=?_) rfl hHeld ?_ ?_;rotate_left
     ·rintro w ⟨s1,s2⟩;go_simp;try with_reducible rfl
     (try simp only[Act.put,za,zb,zc])
     refine tk (i:=18) (oi:=⟨some 47,Op.build 206 #[(0,Operand.tmp 39),(1,Operand.tmp 46)],_,_,_,none⟩) (v:=?_) rfl hHeld ?_ ?_;rotate_left
     ·rintro w ⟨s1,s2⟩;go_simp;try with_reducible rfl
     (try simp only[Act.put,za,zb,zc])
     refine wpAnyH_ready (rs:=[19]) (by kernel_rfl) (by simp) ?_
     refine(AllReadyH.cons (o:=⟨some 48,Op.buildSlice 186 1 #[(0,Operand.tmp 47)],_,_,_,none⟩) rfl (fun K hK=>?_) AllReadyH.nil)
     go_simp
     have hgb:=ze w15 (.cells #[.int .i64 (oo:Int),.string (ofB zz)] 206) none;have hsz:=HG.out.size;have HY:=zd (je w15 (oo,zz) _ _ rfl rfl)
     try replace HA:=zd (yo.grown HA.out hgb (by simp))
     try replace HB:=zd ((hgb.block _ (Array.getElem?_eq_some_iff.1 HB.out).1 (by simp)).trans HB.out)
     replace HG:=zd (zh HG.out hgb);have HP19:Hid (W1.heap.size≤w15.heap.size):=(show _≤_ from hsz)
     clear hgb hsz;generalize w15.alloc (.cells #[.int .i64 (oo:Int),.string (ofB zz)] 206)=w19 at *;generalize w15.heap.size=b19 at *;refine hK.out _ _ (HS.out _ HG.out) (fun hHeld=>?_)
     clear hK K
     (try simp only[Act.put,za,zb,zc])
     refine wpAnyH_ready (rs:=[20]) (by kernel_rfl) (by simp) ?_
     refine(AllReadyH.cons (o:=⟨some 49,Op.call { callee:=Callee.builtin Builtin.append,args:=#[Operand.tmp 37,Operand.tmp 48],argTypes:=#[186,186] },_,_,_,none⟩) rfl (fun K hK=>?_) AllReadyH.nil)
     refine xc (E:=206) (sz:=2) (enc:=xt) (v:=.slice p8 n c8) (l:=xl) (m:=[(oo,zz)]) rfl _ _ 186 rfl yv xn i0 z0 by0 Tryz.underlying186 hi hz0 hz1 hz2 hz3 (by decide) hz4 rfl HA.out rfl HY.out (by have:=HN.out;have:=HF.out;simp;omega) (n+1) (by have:=HN.out;simp;try omega) ?_
     intro p20 c20 w20 hap;have HG9:=zd (yd HG.out hap.2.1 (fun b hb=>HO8.out b hb))
     have HO20:Hid (∀b,(Value.slice p20 (n+1) c20).ownBlock=some b→W1.heap.size≤b):=(fun b hb=>by
      rcases hap.2.2 with e|e
      ·have hv:=HO8.out
       rw[hb] at e
       exact hv b e.symm
      ·rw[hb] at e
       injection e with e
       have:=HG.out.size;omega)
     have HA9:=zd hap.1;clear HA HG hap;have HA:=zd HA9.out;have HG:=zd HG9.out;clear HA9 HG9;refine hK.out _ _ (HS.out _ HG.out) (fun hHeld=>?_)
     clear hK K
     (try simp only[Act.put,za,zb,zc])
     refine tk (i:=21) (oi:=⟨some 50,Op.indexAddr 183 (Operand.tmp 32) (Operand.tmp 33),_,_,_,none⟩) (v:=?_) rfl hHeld ?_ ?_;rotate_left
     ·rintro w ⟨s1,s2⟩;go_simp;try with_reducible rfl
     (try simp only[Act.put,za,zb,zc])
     refine tk (i:=22) (oi:=⟨some 51,Op.fieldAddr 188 (Operand.tmp 50) 1,_,_,_,none⟩) (v:=?_) rfl hHeld ?_ ?_;rotate_left
     ·rintro w ⟨s1,s2⟩;go_simp;try with_reducible rfl
     (try simp only[Act.put,za,zb,zc])
     refine wpAnyH_ready (rs:=[23]) (by kernel_rfl) (by simp) ?_
     refine(AllReadyH.cons (o:=⟨none,Op.store 186 (Operand.tmp 51) (Operand.tmp 49),_,_,_,none⟩) rfl (fun K hK=>?_) AllReadyH.nil)
     obtain⟨st1,st2⟩:=HST.out _ HG.out
     go_simp
     have HF9:=zd (HLAY.out w20 (.slice p20 (n+1) c20) (zh HG1.out HG.out) HA.out (fun b hb=>Nat.le_trans HG1.out.size (HO20.out b hb)))
     refine hK.out _ _ ⟨ya (b2:=db) (b:=g) (Or.inl (fun e=>hgd e.symm)) (HS.out _ HG.out).1,ya (b2:=mb) (b:=g) (Or.inl (by have:=HMB.out;omega)) (HS.out _ HG.out).2⟩ (fun hHeld=>?_)
     clear hK K
     (try simp only[Act.put,za,zb,zc])
     refine wpAnyH_done (by kernel_rfl) ?_ _
     clear hHeld;have HF10:=HF9;clear HA HG HF9 HP5 HP15 HP19 HO8 HO20 HY HB
     cases sb
     ·go_wp2_with (go_at_call 119;refine(HEND.out _ HF10.out.1 HF10.out.2).mono ?_;rintro e w22 ⟨rfl,hr,ht⟩;have HR:=zd hr;have HT:=zd ht;clear hr ht)
      go_ret
      exact⟨rfl,HR.out,HT.out⟩
     ·go_wp2_with (go_at_call 119;refine(HEND.out _ HF10.out.1 HF10.out.2).mono ?_;rintro e w22 ⟨rfl,hr,ht⟩;have HR:=zd hr;have HT:=zd ht;clear hr ht)
      go_ret
      exact⟨rfl,HR.out,HT.out⟩
    ·have hcv:=uk HB.out
     go_simp
     clear hcv;refine hK.out _ _ (HS.out _ HG.out) (fun hHeld=>?_)
     clear hK K
     (try simp only[Act.put,za,zb,zc])
     refine tk (i:=17) (oi:=⟨some 46,Op.binOp BinOp.add 9 (Operand.tmp 40) (Operand.tmp 45) 9,_,_,_,none⟩) (v:=?_) rfl hHeld ?_ ?_;rotate_left
     ·rintro w ⟨s1,s2⟩;go_simp;try with_reducible rfl
     (try simp only[Act.put,za,zb,zc])
     refine wpAnyH_ready (rs:=[10]) (by kernel_rfl) (by simp) ?_
     refine(AllReadyH.cons (o:=⟨some 39,Op.call { callee:=Callee.value (Operand.func 118),args:=#[Operand.tmp 38],argTypes:=#[60] },_,_,_,none⟩) rfl (fun K hK=>?_) AllReadyH.nil)
     go_simp
     refine(HO.out _ (zh HG1.out HG.out)).mono ?_;rintro e w10 ⟨rfl,h5⟩;obtain rfl:w15=w10:=h5.symm;refine hK.out _ _ (HS.out _ HG.out) (fun hHeld=>?_)
     clear hK K
     (try simp only[Act.put,za,zb,zc])
     refine tk (i:=18) (oi:=⟨some 47,Op.build 206 #[(0,Operand.tmp 39),(1,Operand.tmp 46)],_,_,_,none⟩) (v:=?_) rfl hHeld ?_ ?_;rotate_left
     ·rintro w ⟨s1,s2⟩;go_simp;try with_reducible rfl
     (try simp only[Act.put,za,zb,zc])
     refine wpAnyH_ready (rs:=[19]) (by kernel_rfl) (by simp) ?_
     refine(AllReadyH.cons (o:=⟨some 48,Op.buildSlice 186 1 #[(0,Operand.tmp 47)],_,_,_,none⟩) rfl (fun K hK=>?_) AllReadyH.nil)
     go_simp
     have hgb:=ze w15 (.cells #[.int .i64 (oo:Int),.string (ofB zz)] 206) none;have hsz:=HG.out.size;have HY:=zd (je w15 (oo,zz) _ _ rfl rfl)
     try replace HA:=zd (yo.grown HA.out hgb (by simp))
     try replace HB:=zd ((hgb.block _ (Array.getElem?_eq_some_iff.1 HB.out).1 (by simp)).trans HB.out)
     replace HG:=zd (zh HG.out hgb);have HP19:Hid (W1.heap.size≤w15.heap.size):=(show _≤_ from hsz)
     clear hgb hsz;generalize w15.alloc (.cells #[.int .i64 (oo:Int),.string (ofB zz)] 206)=w19 at *;generalize w15.heap.size=b19 at *;refine hK.out _ _ (HS.out _ HG.out) (fun hHeld=>?_)
     clear hK K
     (try simp only[Act.put,za,zb,zc])
     refine wpAnyH_ready (rs:=[20]) (by kernel_rfl) (by simp) ?_
     refine(AllReadyH.cons (o:=⟨some 49,Op.call { callee:=Callee.builtin Builtin.append,args:=#[Operand.tmp 37,Operand.tmp 48],argTypes:=#[186,186] },_,_,_,none⟩) rfl (fun K hK=>?_) AllReadyH.nil)
     refine xc (E:=206) (sz:=2) (enc:=xt) (v:=.slice p8 n c8) (l:=xl) (m:=[(oo,zz)]) rfl _ _ 186 rfl yv xn i0 z0 by0 Tryz.underlying186 hi hz0 hz1 hz2 hz3 (by decide) hz4 rfl HA.out rfl HY.out (by have:=HN.out;have:=HF.out;simp;omega) (n+1) (by have:=HN.out;simp;try omega) ?_
     intro p20 c20 w20 hap;have HG9:=zd (yd HG.out hap.2.1 (fun b hb=>HO8.out b hb))
     have HO20:Hid (∀b,(Value.slice p20 (n+1) c20).ownBlock=some b→W1.heap.size≤b):=(fun b hb=>by
      rcases hap.2.2 with e|e
      ·have hv:=HO8.out
       rw[hb] at e
       exact hv b e.symm
      ·rw[hb] at e
       injection e with e
       have:=HG.out.size;omega)
     have HA9:=zd hap.1;clear HA HG hap;have HA:=zd HA9.out;have HG:=zd HG9.out;clear HA9 HG9;refine hK.out _ _ (HS.out _ HG.out) (fun hHeld=>?_)
     clear hK K
     (try simp only[Act.put,za,zb,zc])
     refine tk (i:=21) (oi:=⟨some 50,Op.indexAddr 183 (Operand.tmp 32) (Operand.tmp 33),_,_,_,none⟩) (v:=?_) rfl hHeld ?_ ?_;rotate_left
     ·rintro w ⟨s1,s2⟩;go_simp;try with_reducible rfl
     (try simp only[Act.put,za,zb,zc])
     refine tk (i:=22) (oi:=⟨some 51,Op.fieldAddr 188 (Operand.tmp 50) 1,_,_,_,none⟩) (v:=?_) rfl hHeld ?_ ?_;rotate_left
     ·rintro w ⟨s1,s2⟩;go_simp;try with_reducible rfl
     (try simp only[Act.put,za,zb,zc])
     refine wpAnyH_ready (rs:=[23]) (by kernel_rfl) (by simp) ?_
     refine(AllReadyH.cons (o:=⟨none,Op.store 186 (Operand.tmp 51) (Operand.tmp 49),_,_,_,none⟩) rfl (fun K hK=>?_) AllReadyH.nil)
     obtain⟨st1,st2⟩:=HST.out _ HG.out
     go_simp
     have HF9:=zd (HLAY.out w20 (.slice p20 (n+1) c20) (zh HG1.out HG.out) HA.out (fun b hb=>Nat.le_trans HG1.out.size (HO20.out b hb)))
     refine hK.out _ _ ⟨ya (b2:=db) (b:=g) (Or.inl (fun e=>hgd e.symm)) (HS.out _ HG.out).1,ya (b2:=mb) (b:=g) (Or.inl (by have:=HMB.out;omega)) (HS.out _ HG.out).2⟩ (fun hHeld=>?_)
     clear hK K
     (try simp only[Act.put,za,zb,zc])
     refine wpAnyH_done (by kernel_rfl) ?_ _
     clear hHeld;have HF10:=HF9;clear HA HG HF9 HP5 HP15 HP19 HO8 HO20 HY HB
     cases sb
     ·go_wp2_with (go_at_call 119;refine(HEND.out _ HF10.out.1 HF10.out.2).mono ?_;rintro e w22 ⟨rfl,hr,ht⟩;have HR:=zd hr;have HT:=zd ht;clear hr ht)
      go_ret
      exact⟨rfl,HR.out,HT.out⟩
     ·go_wp2_with (go_at_call 119;refine(HEND.out _ HF10.out.1 HF10.out.2).mono ?_;rintro e w22 ⟨rfl,hr,ht⟩;have HR:=zd hr;have HT:=zd ht;clear hr ht)
      go_ret
      exact⟨rfl,HR.out,HT.out⟩
  ·go_simp
   have hgb:=ze w5 (.cells (zg (List.replicate zn 0)).toArray 5) none;have hsz:=HG.out.size;have HB:=zd (heap_alloc_new w5 (.cells (zg (List.replicate zn 0)).toArray 5))
   try replace HA:=zd (yo.grown HA.out hgb (by simp))
   try replace HB:=zd ((hgb.block _ (Array.getElem?_eq_some_iff.1 HB.out).1 (by simp)).trans HB.out)
   replace HG:=zd (zh HG.out hgb);have HP15:Hid (W1.heap.size≤w5.heap.size):=(show _≤_ from hsz)
   clear hgb hsz;generalize w5.alloc (.cells (zg (List.replicate zn 0)).toArray 5)=w15 at *;generalize w5.heap.size=b15 at *;refine hK.out _ _ (HS.out _ HG.out) (fun hHeld=>?_)
   clear hK K
   (try simp only[Act.put,za,zb,zc])
   refine wpAnyH_ready (rs:=[8,16]) (by kernel_rfl) (by simp) ?_
   refine(AllReadyH.cons (o:=⟨some 37,Op.call { callee:=Callee.builtin Builtin.append,args:=#[Operand.tmp 34,Operand.tmp 36],argTypes:=#[186,186] },_,_,_,none⟩) rfl (fun K hK=>?_) (AllReadyH.cons (o:=⟨some 45,Op.convert 32 9 (Operand.tmp 44),_,_,_,none⟩) rfl (fun K hK=>?_) AllReadyH.nil))
   ·refine xc (E:=206) (sz:=2) (enc:=xt) (v:=.slice (some ⟨b5,0,none⟩) 0 0) (l:=[]) (m:=xl) rfl _ _ 186 rfl yv xn i0 z0 by0 Tryz.underlying186 hi hz0 hz1 hz2 hz3 (by decide) hz4 rfl HA.out rfl (HL.out.y (zh HG1.out HG.out)) (by have:=HN.out;have:=HF.out;simp;omega) (n) (by have:=HN.out;simp;try omega) ?_
    intro p8 c8 w8 hap;replace HB:=zd ((hap.2.1.block _ (Array.getElem?_eq_some_iff.1 HB.out).1 (fun e=>qf HA.out HB.out (by decide) e.symm)).trans HB.out)
    have HG9:=zd (yd HG.out hap.2.1 (fun b hb=>by have:=HP5.out;simp[Value.ownBlock] at hb;omega))
    have HO8:Hid (∀b,(Value.slice p8 (n) c8).ownBlock=some b→W1.heap.size≤b):=(fun b hb=>by
     rcases hap.2.2 with e|e
     ·have hv:=HP5.out
      rw[hb] at e;simp[Value.ownBlock] at e;omega
     ·rw[hb] at e
      injection e with e
      have:=HG.out.size;omega)
    have HA9:=zd hap.1;clear HA HG hap;have HA:=zd HA9.out;have HG:=zd HG9.out;clear HA9 HG9;refine hK.out _ _ (HS.out _ HG.out) (fun hHeld=>?_)
    clear hK K
    (try simp only[Act.put,za,zb,zc])
    refine wpAnyH_ready (rs:=[10,16]) (by kernel_rfl) (by simp) ?_
    refine(AllReadyH.cons (o:=⟨some 39,Op.call { callee:=Callee.value (Operand.func 118),args:=#[Operand.tmp 38],argTypes:=#[60] },_,_,_,none⟩) rfl (fun K hK=>?_) (AllReadyH.cons (o:=⟨some 45,Op.convert 32 9 (Operand.tmp 44),_,_,_,none⟩) rfl (fun K hK=>?_) AllReadyH.nil))
    ·go_simp
     refine(HO.out _ (zh HG1.out HG.out)).mono ?_;rintro e w10 ⟨rfl,h5⟩;obtain rfl:w8=w10:=h5.symm;refine hK.out _ _ (HS.out _ HG.out) (fun hHeld=>?_)
     clear hK K
     (try simp only[Act.put,za,zb,zc])
     refine wpAnyH_ready (rs:=[16]) (by kernel_rfl) (by simp) ?_
     refine(AllReadyH.cons (o:=⟨some 45,Op.convert 32 9 (Operand.tmp 44),_,_,_,none⟩) rfl (fun K hK=>?_) AllReadyH.nil)
     have hcv:=uk HB.out
     go_simp
     clear hcv;refine hK.out _ _ (HS.out _ HG.out) (fun hHeld=>?_)
     clear hK K
     (try simp only[Act.put,za,zb,zc])
     refine tk (i:=17) (oi:=⟨some 46,Op.binOp BinOp.add 9 (Operand.tmp 40) (Operand.tmp 45) 9,_,_,_,none⟩) (v:=?_) rfl hHeld ?_ ?_;rotate_left
     ·rintro w ⟨s1,s2⟩;go_simp;try with_reducible rfl
     (try simp only[Act.put,za,zb,zc])
     refine tk (i:=18) (oi:=⟨some 47,Op.build 206 #[(0,Operand.tmp 39),(1,Operand.tmp 46)],_,_,_,none⟩) (v:=?_) rfl hHeld ?_ ?_;rotate_left
     ·rintro w ⟨s1,s2⟩;go_simp;try with_reducible rfl
     (try simp only[Act.put,za,zb,zc])
     refine wpAnyH_ready (rs:=[19]) (by kernel_rfl) (by simp) ?_
     refine(AllReadyH.cons (o:=⟨some 48,Op.buildSlice 186 1 #[(0,Operand.tmp 47)],_,_,_,none⟩) rfl (fun K hK=>?_) AllReadyH.nil)
     go_simp
     have hgb:=ze w8 (.cells #[.int .i64 (oo:Int),.string (ofB zz)] 206) none;have hsz:=HG.out.size;have HY:=zd (je w8 (oo,zz) _ _ rfl rfl)
     try replace HA:=zd (yo.grown HA.out hgb (by simp))
     try replace HB:=zd ((hgb.block _ (Array.getElem?_eq_some_iff.1 HB.out).1 (by simp)).trans HB.out)
     replace HG:=zd (zh HG.out hgb);have HP19:Hid (W1.heap.size≤w8.heap.size):=(show _≤_ from hsz)
     clear hgb hsz;generalize w8.alloc (.cells #[.int .i64 (oo:Int),.string (ofB zz)] 206)=w19 at *;generalize w8.heap.size=b19 at *;refine hK.out _ _ (HS.out _ HG.out) (fun hHeld=>?_)
     clear hK K
     (try simp only[Act.put,za,zb,zc])
     refine wpAnyH_ready (rs:=[20]) (by kernel_rfl) (by simp) ?_
     refine(AllReadyH.cons (o:=⟨some 49,Op.call { callee:=Callee.builtin Builtin.append,args:=#[Operand.tmp 37,Operand.tmp 48],argTypes:=#[186,186] },_,_,_,none⟩) rfl (fun K hK=>?_) AllReadyH.nil)
     refine xc (E:=206) (sz:=2) (enc:=xt) (v:=.slice p8 n c8) (l:=xl) (m:=[(oo,zz)]) rfl _ _ 186 rfl yv xn i0 z0 by0 Tryz.underlying186 hi hz0 hz1 hz2 hz3 (by decide) hz4 rfl HA.out rfl HY.out (by have:=HN.out;have:=HF.out;simp;omega) (n+1) (by have:=HN.out;simp;try omega) ?_
     intro p20 c20 w20 hap;have HG9:=zd (yd HG.out hap.2.1 (fun b hb=>HO8.out b hb))
     have HO20:Hid (∀b,(Value.slice p20 (n+1) c20).ownBlock=some b→W1.heap.size≤b):=(fun b hb=>by
      rcases hap.2.2 with e|e
      ·have hv:=HO8.out
       rw[hb] at e
       exact hv b e.symm
      ·rw[hb] at e
       injection e with e
       have:=HG.out.size;omega)
     have HA9:=zd hap.1;clear HA HG hap;have HA:=zd HA9.out;have HG:=zd HG9.out;clear HA9 HG9;refine hK.out _ _ (HS.out _ HG.out) (fun hHeld=>?_)
     clear hK K
     (try simp only[Act.put,za,zb,zc])
     refine tk (i:=21) (oi:=⟨some 50,Op.indexAddr 183 (Operand.tmp 32) (Operand.tmp 33),_,_,_,none⟩) (v:=?_) rfl hHeld ?_ ?_;rotate_left
     ·rintro w ⟨s1,s2⟩;go_simp;try with_reducible rfl
     (try simp only[Act.put,za,zb,zc])
     refine tk (i:=22) (oi:=⟨some 51,Op.fieldAddr 188 (Operand.tmp 50) 1,_,_,_,none⟩) (v:=?_) rfl hHeld ?_ ?_;rotate_left
     ·rintro w ⟨s1,s2⟩;go_simp;try with_reducible rfl
     (try simp only[Act.put,za,zb,zc])
     refine wpAnyH_ready (rs:=[23]) (by kernel_rfl) (by simp) ?_
     refine(AllReadyH.cons (o:=⟨none,Op.store 186 (Operand.tmp 51) (Operand.tmp 49),_,_,_,none⟩) rfl (fun K hK=>?_) AllReadyH.nil)
     obtain⟨st1,st2⟩:=HST.out _ HG.out
     go_simp
     have HF9:=zd (HLAY.out w20 (.slice p20 (n+1) c20) (zh HG1.out HG.out) HA.out (fun b hb=>Nat.le_trans HG1.out.size (HO20.out b hb)))
     refine hK.out _ _ ⟨ya (b2:=db) (b:=g) (Or.inl (fun e=>hgd e.symm)) (HS.out _ HG.out).1,ya (b2:=mb) (b:=g) (Or.inl (by have:=HMB.out;omega)) (HS.out _ HG.out).2⟩ (fun hHeld=>?_)
     clear hK K
     (try simp only[Act.put,za,zb,zc])
     refine wpAnyH_done (by kernel_rfl) ?_ _
     clear hHeld;have HF10:=HF9;clear HA HG HF9 HP5 HP15 HP19 HO8 HO20 HY HB
     cases sb
     ·go_wp2_with (go_at_call 119;refine(HEND.out _ HF10.out.1 HF10.out.2).mono ?_;rintro e w22 ⟨rfl,hr,ht⟩;have HR:=zd hr;have HT:=zd ht;clear hr ht)
      go_ret
      exact⟨rfl,HR.out,HT.out⟩
     ·go_wp2_with (go_at_call 119;refine(HEND.out _ HF10.out.1 HF10.out.2).mono ?_;rintro e w22 ⟨rfl,hr,ht⟩;have HR:=zd hr;have HT:=zd ht;clear hr ht)
      go_ret
      exact⟨rfl,HR.out,HT.out⟩
    ·have hcv:=uk HB.out
     go_simp
     clear hcv;refine hK.out _ _ (HS.out _ HG.out) (fun hHeld=>?_)
     clear hK K
     (try simp only[Act.put,za,zb,zc])
     refine tk (i:=17) (oi:=⟨some 46,Op.binOp BinOp.add 9 (Operand.tmp 40) (Operand.tmp 45) 9,_,_,_,none⟩) (v:=?_) rfl hHeld ?_ ?_;rotate_left
     ·rintro w ⟨s1,s2⟩;go_simp;try with_reducible rfl
     (try simp only[Act.put,za,zb,zc])
     refine wpAnyH_ready (rs:=[10]) (by kernel_rfl) (by simp) ?_
     refine(AllReadyH.cons (o:=⟨some 39,Op.call { callee:=Callee.value (Operand.func 118),args:=#[Operand.tmp 38],argTypes:=#[60] },_,_,_,none⟩) rfl (fun K hK=>?_) AllReadyH.nil)
     go_simp
     refine(HO.out _ (zh HG1.out HG.out)).mono ?_;rintro e w10 ⟨rfl,h5⟩;obtain rfl:w8=w10:=h5.symm;refine hK.out _ _ (HS.out _ HG.out) (fun hHeld=>?_)
     clear hK K
     (try simp only[Act.put,za,zb,zc])
     refine tk (i:=18) (oi:=⟨some 47,Op.build 206 #[(0,Operand.tmp 39),(1,Operand.tmp 46)],_,_,_,none⟩) (v:=?_) rfl hHeld ?_ ?_;rotate_left
     ·rintro w ⟨s1,s2⟩;go_simp;try with_reducible rfl
     (try simp only[Act.put,za,zb,zc])
     refine wpAnyH_ready (rs:=[19]) (by kernel_rfl) (by simp) ?_
     refine(AllReadyH.cons (o:=⟨some 48,Op.buildSlice 186 1 #[(0,Operand.tmp 47)],_,_,_,none⟩) rfl (fun K hK=>?_) AllReadyH.nil)
     go_simp
     have hgb:=ze w8 (.cells #[.int .i64 (oo:Int),.string (ofB zz)] 206) none;have hsz:=HG.out.size;have HY:=zd (je w8 (oo,zz) _ _ rfl rfl)
     try replace HA:=zd (yo.grown HA.out hgb (by simp))
     try replace HB:=zd ((hgb.block _ (Array.getElem?_eq_some_iff.1 HB.out).1 (by simp)).trans HB.out)
     replace HG:=zd (zh HG.out hgb);have HP19:Hid (W1.heap.size≤w8.heap.size):=(show _≤_ from hsz)
     clear hgb hsz;generalize w8.alloc (.cells #[.int .i64 (oo:Int),.string (ofB zz)] 206)=w19 at *;generalize w8.heap.size=b19 at *;refine hK.out _ _ (HS.out _ HG.out) (fun hHeld=>?_)
     clear hK K
     (try simp only[Act.put,za,zb,zc])
     refine wpAnyH_ready (rs:=[20]) (by kernel_rfl) (by simp) ?_
     refine(AllReadyH.cons (o:=⟨some 49,Op.call { callee:=Callee.builtin Builtin.append,args:=#[Operand.tmp 37,Operand.tmp 48],argTypes:=#[186,186] },_,_,_,none⟩) rfl (fun K hK=>?_) AllReadyH.nil)
     refine xc (E:=206) (sz:=2) (enc:=xt) (v:=.slice p8 n c8) (l:=xl) (m:=[(oo,zz)]) rfl _ _ 186 rfl yv xn i0 z0 by0 Tryz.underlying186 hi hz0 hz1 hz2 hz3 (by decide) hz4 rfl HA.out rfl HY.out (by have:=HN.out;have:=HF.out;simp;omega) (n+1) (by have:=HN.out;simp;try omega) ?_
     intro p20 c20 w20 hap;have HG9:=zd (yd HG.out hap.2.1 (fun b hb=>HO8.out b hb))
     have HO20:Hid (∀b,(Value.slice p20 (n+1) c20).ownBlock=some b→W1.heap.size≤b):=(fun b hb=>by
      rcases hap.2.2 with e|e
      ·have hv:=HO8.out
       rw[hb] at e
       exact hv b e.symm
      ·rw[hb] at e
       injection e with e
       have:=HG.out.size;omega)
     have HA9:=zd hap.1;clear HA HG hap;have HA:=zd HA9.out;have HG:=zd HG9.out;clear HA9 HG9;refine hK.out _ _ (HS.out _ HG.out) (fun hHeld=>?_)
     clear hK K
     (try simp only[Act.put,za,zb,zc])
     refine tk (i:=21) (oi:=⟨some 50,Op.indexAddr 183 (Operand.tmp 32) (Operand.tmp 33),_,_,_,none⟩) (v:=?_) rfl hHeld ?_ ?_;rotate_left
     ·rintro w ⟨s1,s2⟩;go_simp;try with_reducible rfl
     (try simp only[Act.put,za,zb,zc])
     refine tk (i:=22) (oi:=⟨some 51,Op.fieldAddr 188 (Operand.tmp 50) 1,_,_,_,none⟩) (v:=?_) rfl hHeld ?_ ?_;rotate_left
     ·rintro w ⟨s1,s2⟩;go_simp;try with_reducible rfl
     (try simp only[Act.put,za,zb,zc])
     refine wpAnyH_ready (rs:=[23]) (by kernel_rfl) (by simp) ?_
     refine(AllReadyH.cons (o:=⟨none,Op.store 186 (Operand.tmp 51) (Operand.tmp 49),_,_,_,none⟩) rfl (fun K hK=>?_) AllReadyH.nil)
     obtain⟨st1,st2⟩:=HST.out _ HG.out
     go_simp
     have HF9:=zd (HLAY.out w20 (.slice p20 (n+1) c20) (zh HG1.out HG.out) HA.out (fun b hb=>Nat.le_trans HG1.out.size (HO20.out b hb)))
     refine hK.out _ _ ⟨ya (b2:=db) (b:=g) (Or.inl (fun e=>hgd e.symm)) (HS.out _ HG.out).1,ya (b2:=mb) (b:=g) (Or.inl (by have:=HMB.out;omega)) (HS.out _ HG.out).2⟩ (fun hHeld=>?_)
     clear hK K
     (try simp only[Act.put,za,zb,zc])
     refine wpAnyH_done (by kernel_rfl) ?_ _
     clear hHeld;have HF10:=HF9;clear HA HG HF9 HP5 HP15 HP19 HO8 HO20 HY HB
     cases sb
     ·go_wp2_with (go_at_call 119;refine(HEND.out _ HF10.out.1 HF10.out.2).mono ?_;rintro e w22 ⟨rfl,hr,ht⟩;have HR:=zd hr;have HT:=zd ht;clear hr ht)
      go_ret
      exact⟨rfl,HR.out,HT.out⟩
     ·go_wp2_with (go_at_call 119;refine(HEND.out _ HF10.out.1 HF10.out.2).mono ?_;rintro e w22 ⟨rfl,hr,ht⟩;have HR:=zd hr;have HT:=zd ht;clear hr ht)
      go_ret
      exact⟨rfl,HR.out,HT.out⟩
   ·have hcv:=uk HB.out
    go_simp
    clear hcv;refine hK.out _ _ (HS.out _ HG.out) (fun hHeld=>?_)
    clear hK K
    (try simp only[Act.put,za,zb,zc])
    refine tk (i:=17) (oi:=⟨some 46,Op.binOp BinOp.add 9 (Operand.tmp 40) (Operand.tmp 45) 9,_,_,_,none⟩) (v:=?_) rfl hHeld ?_ ?_;rotate_left
    ·rintro w ⟨s1,s2⟩;go_simp;try with_reducible rfl
    (try simp only[Act.put,za,zb,zc])
    refine wpAnyH_ready (rs:=[8]) (by kernel_rfl) (by simp) ?_
    refine(AllReadyH.cons (o:=⟨some 37,Op.call { callee:=Callee.builtin Builtin.append,args:=#[Operand.tmp 34,Operand.tmp 36],argTypes:=#[186,186] },_,_,_,none⟩) rfl (fun K hK=>?_) AllReadyH.nil)
    refine xc (E:=206) (sz:=2) (enc:=xt) (v:=.slice (some ⟨b5,0,none⟩) 0 0) (l:=[]) (m:=xl) rfl _ _ 186 rfl yv xn i0 z0 by0 Tryz.underlying186 hi hz0 hz1 hz2 hz3 (by decide) hz4 rfl HA.out rfl (HL.out.y (zh HG1.out HG.out)) (by have:=HN.out;have:=HF.out;simp;omega) (n) (by have:=HN.out;simp;try omega) ?_
    intro p8 c8 w8 hap;replace HB:=zd ((hap.2.1.block _ (Array.getElem?_eq_some_iff.1 HB.out).1 (fun e=>qf HA.out HB.out (by decide) e.symm)).trans HB.out)
    have HG9:=zd (yd HG.out hap.2.1 (fun b hb=>by have:=HP5.out;simp[Value.ownBlock] at hb;omega))
    have HO8:Hid (∀b,(Value.slice p8 (n) c8).ownBlock=some b→W1.heap.size≤b):=(fun b hb=>by
     rcases hap.2.2 with e|e
     ·have hv:=HP5.out
      rw[hb] at e;simp[Value.ownBlock] at e;omega
     ·rw[hb] at e
      injection e with e
      have:=HG.out.size;omega)
    have HA9:=zd hap.1;clear HA HG hap;have HA:=zd HA9.out;have HG:=zd HG9.out;clear HA9 HG9;refine hK.out _ _ (HS.out _ HG.out) (fun hHeld=>?_)
    clear hK K
    (try simp only[Act.put,za,zb,zc])
    refine wpAnyH_ready (rs:=[10]) (by kernel_rfl) (by simp) ?_
    refine(AllReadyH.cons (o:=⟨some 39,Op.call { callee:=Callee.value (Operand.func 118),args:=#[Operand.tmp 38],argTypes:=#[60] },_,_,_,none⟩) rfl (fun K hK=>?_) AllReadyH.nil)
    go_simp
    refine(HO.out _ (zh HG1.out HG.out)).mono ?_;rintro e w10 ⟨rfl,h5⟩;obtain rfl:w8=w10:=h5.symm;refine hK.out _ _ (HS.out _ HG.out) (fun hHeld=>?_)
    clear hK K
    (try simp only[Act.put,za,zb,zc])
    refine tk (i:=18) (oi:=⟨some 47,Op.build 206 #[(0,Operand.tmp 39),(1,Operand.tmp 46)],_,_,_,none⟩) (v:=?_) rfl hHeld ?_ ?_;rotate_left
    ·rintro w ⟨s1,s2⟩;go_simp;try with_reducible rfl
    (try simp only[Act.put,za,zb,zc])
    refine wpAnyH_ready (rs:=[19]) (by kernel_rfl) (by simp) ?_
    refine(AllReadyH.cons (o:=⟨some 48,Op.buildSlice 186 1 #[(0,Operand.tmp 47)],_,_,_,none⟩) rfl (fun K hK=>?_) AllReadyH.nil)
    go_simp
    have hgb:=ze w8 (.cells #[.int .i64 (oo:Int),.string (ofB zz)] 206) none;have hsz:=HG.out.size;have HY:=zd (je w8 (oo,zz) _ _ rfl rfl)
    try replace HA:=zd (yo.grown HA.out hgb (by simp))
    try replace HB:=zd ((hgb.block _ (Array.getElem?_eq_some_iff.1 HB.out).1 (by simp)).trans HB.out)
    replace HG:=zd (zh HG.out hgb);have HP19:Hid (W1.heap.size≤w8.heap.size):=(show _≤_ from hsz)
    clear hgb hsz;generalize w8.alloc (.cells #[.int .i64 (oo:Int),.string (ofB zz)] 206)=w19 at *;generalize w8.heap.size=b19 at *;refine hK.out _ _ (HS.out _ HG.out) (fun hHeld=>?_)
    clear hK K
    (try simp only[Act.put,za,zb,zc])
    refine wpAnyH_ready (rs:=[20]) (by kernel_rfl) (by simp) ?_
    refine(AllReadyH.cons (o:=⟨some 49,Op.call { callee:=Callee.builtin Builtin.append,args:=#[Operand.tmp 37,Operand.tmp 48],argTypes:=#[186,186] },_,_,_,none⟩) rfl (fun K hK=>?_) AllReadyH.nil)
    refine xc (E:=206) (sz:=2) (enc:=xt) (v:=.slice p8 n c8) (l:=xl) (m:=[(oo,zz)]) rfl _ _ 186 rfl yv xn i0 z0 by0 Tryz.underlying186 hi hz0 hz1 hz2 hz3 (by decide) hz4 rfl HA.out rfl HY.out (by have:=HN.out;have:=HF.out;simp;omega) (n+1) (by have:=HN.out;simp;try omega) ?_
    intro p20 c20 w20 hap;have HG9:=zd (yd HG.out hap.2.1 (fun b hb=>HO8.out b hb))
    have HO20:Hid (∀b,(Value.slice p20 (n+1) c20).ownBlock=some b→W1.heap.size≤b):=(fun b hb=>by
     rcases hap.2.2 with e|e
     ·have hv:=HO8.out
      rw[hb] at e
      exact hv b e.symm
     ·rw[hb] at e
      injection e with e
      have:=HG.out.size;omega)
    have HA9:=zd hap.1;clear HA HG hap;have HA:=zd HA9.out;have HG:=zd HG9.out;clear HA9 HG9;refine hK.out _ _ (HS.out _ HG.out) (fun hHeld=>?_)
    clear hK K
    (try simp only[Act.put,za,zb,zc])
    refine tk (i:=21) (oi:=⟨some 50,Op.indexAddr 183 (Operand.tmp 32) (Operand.tmp 33),_,_,_,none⟩) (v:=?_) rfl hHeld ?_ ?_;rotate_left
    ·rintro w ⟨s1,s2⟩;go_simp;try with_reducible rfl
    (try simp only[Act.put,za,zb,zc])
    refine tk (i:=22) (oi:=⟨some 51,Op.fieldAddr 188 (Operand.tmp 50) 1,_,_,_,none⟩) (v:=?_) rfl hHeld ?_ ?_;rotate_left
    ·rintro w ⟨s1,s2⟩;go_simp;try with_reducible rfl
    (try simp only[Act.put,za,zb,zc])
    refine wpAnyH_ready (rs:=[23]) (by kernel_rfl) (by simp) ?_
    refine(AllReadyH.cons (o:=⟨none,Op.store 186 (Operand.tmp 51) (Operand.tmp 49),_,_,_,none⟩) rfl (fun K hK=>?_) AllReadyH.nil)
    obtain⟨st1,st2⟩:=HST.out _ HG.out
    go_simp
    have HF9:=zd (HLAY.out w20 (.slice p20 (n+1) c20) (zh HG1.out HG.out) HA.out (fun b hb=>Nat.le_trans HG1.out.size (HO20.out b hb)))
    refine hK.out _ _ ⟨ya (b2:=db) (b:=g) (Or.inl (fun e=>hgd e.symm)) (HS.out _ HG.out).1,ya (b2:=mb) (b:=g) (Or.inl (by have:=HMB.out;omega)) (HS.out _ HG.out).2⟩ (fun hHeld=>?_)
    clear hK K
    (try simp only[Act.put,za,zb,zc])
    refine wpAnyH_done (by kernel_rfl) ?_ _
    clear hHeld;have HF10:=HF9;clear HA HG HF9 HP5 HP15 HP19 HO8 HO20 HY HB
    cases sb
    ·go_wp2_with (go_at_call 119;refine(HEND.out _ HF10.out.1 HF10.out.2).mono ?_;rintro e w22 ⟨rfl,hr,ht⟩;have HR:=zd hr;have HT:=zd ht;clear hr ht)
     go_ret
     exact⟨rfl,HR.out,HT.out⟩
    ·go_wp2_with (go_at_call 119;refine(HEND.out _ HF10.out.1 HF10.out.2).mono ?_;rintro e w22 ⟨rfl,hr,ht⟩;have HR:=zd hr;have HT:=zd ht;clear hr ht)
     go_ret
     exact⟨rfl,HR.out,HT.out⟩
 ·go_simp
  have hgb:=ze W2 (.cells (zg (List.replicate zn 0)).toArray 5) none;have hsz:=HG.out.size;have HB:=zd (heap_alloc_new W2 (.cells (zg (List.replicate zn 0)).toArray 5))
  try replace HA:=zd (yo.grown HA.out hgb (by simp))
  try replace HB:=zd ((hgb.block _ (Array.getElem?_eq_some_iff.1 HB.out).1 (by simp)).trans HB.out)
  replace HG:=zd (zh HG.out hgb);have HP15:Hid (W1.heap.size≤W2.heap.size):=(show _≤_ from hsz)
  clear hgb hsz;generalize W2.alloc (.cells (zg (List.replicate zn 0)).toArray 5)=w15 at *;generalize W2.heap.size=b15 at *;refine hK.out _ _ (HS.out _ HG.out) (fun hHeld=>?_)
  clear hK K
  (try simp only[Act.put,za,zb,zc])
  refine wpAnyH_ready (rs:=[5,16]) (by kernel_rfl) (by simp) ?_
  refine(AllReadyH.cons (o:=⟨some 34,Op.buildSlice 186 0 #[],_,_,_,none⟩) rfl (fun K hK=>?_) (AllReadyH.cons (o:=⟨some 45,Op.convert 32 9 (Operand.tmp 44),_,_,_,none⟩) rfl (fun K hK=>?_) AllReadyH.nil))
  ·go_simp
   have hgb:=ze w15 (.cells #[] 206) none;have hsz:=HG.out.size;have HA:=zd (zaa w15)
   try replace HA:=zd (yo.grown HA.out hgb (by simp))
   try replace HB:=zd ((hgb.block _ (Array.getElem?_eq_some_iff.1 HB.out).1 (by simp)).trans HB.out)
   replace HG:=zd (zh HG.out hgb);have HP5:Hid (W1.heap.size≤w15.heap.size):=(show _≤_ from hsz)
   clear hgb hsz;generalize w15.alloc (.cells #[] 206)=w5 at *;generalize w15.heap.size=b5 at *;refine hK.out _ _ (HS.out _ HG.out) (fun hHeld=>?_)
   clear hK K
   (try simp only[Act.put,za,zb,zc])
   refine wpAnyH_ready (rs:=[8,16]) (by kernel_rfl) (by simp) ?_
   refine(AllReadyH.cons (o:=⟨some 37,Op.call { callee:=Callee.builtin Builtin.append,args:=#[Operand.tmp 34,Operand.tmp 36],argTypes:=#[186,186] },_,_,_,none⟩) rfl (fun K hK=>?_) (AllReadyH.cons (o:=⟨some 45,Op.convert 32 9 (Operand.tmp 44),_,_,_,none⟩) rfl (fun K hK=>?_) AllReadyH.nil))
   ·refine xc (E:=206) (sz:=2) (enc:=xt) (v:=.slice (some ⟨b5,0,none⟩) 0 0) (l:=[]) (m:=xl) rfl _ _ 186 rfl yv xn i0 z0 by0 Tryz.underlying186 hi hz0 hz1 hz2 hz3 (by decide) hz4 rfl HA.out rfl (HL.out.y (zh HG1.out HG.out)) (by have:=HN.out;have:=HF.out;simp;omega) (n) (by have:=HN.out;simp;try omega) ?_
    intro p8 c8 w8 hap;replace HB:=zd ((hap.2.1.block _ (Array.getElem?_eq_some_iff.1 HB.out).1 (fun e=>qf HA.out HB.out (by decide) e.symm)).trans HB.out)
    have HG9:=zd (yd HG.out hap.2.1 (fun b hb=>by have:=HP5.out;simp[Value.ownBlock] at hb;omega))
    have HO8:Hid (∀b,(Value.slice p8 (n) c8).ownBlock=some b→W1.heap.size≤b):=(fun b hb=>by
     rcases hap.2.2 with e|e
     ·have hv:=HP5.out
      rw[hb] at e;simp[Value.ownBlock] at e;omega
     ·rw[hb] at e
      injection e with e
      have:=HG.out.size;omega)
    have HA9:=zd hap.1;clear HA HG hap;have HA:=zd HA9.out;have HG:=zd HG9.out;clear HA9 HG9;refine hK.out _ _ (HS.out _ HG.out) (fun hHeld=>?_)
    clear hK K
    (try simp only[Act.put,za,zb,zc])
    refine wpAnyH_ready (rs:=[10,16]) (by kernel_rfl) (by simp) ?_
    refine(AllReadyH.cons (o:=⟨some 39,Op.call { callee:=Callee.value (Operand.func 118),args:=#[Operand.tmp 38],argTypes:=#[60] },_,_,_,none⟩) rfl (fun K hK=>?_) (AllReadyH.cons (o:=⟨some 45,Op.convert 32 9 (Operand.tmp 44),_,_,_,none⟩) rfl (fun K hK=>?_) AllReadyH.nil))
    ·go_simp
     refine(HO.out _ (zh HG1.out HG.out)).mono ?_;rintro e w10 ⟨rfl,h5⟩;obtain rfl:w8=w10:=h5.symm;refine hK.out _ _ (HS.out _ HG.out) (fun hHeld=>?_)
     clear hK K
     (try simp only[Act.put,za,zb,zc])
     refine wpAnyH_ready (rs:=[16]) (by kernel_rfl) (by simp) ?_
     refine(AllReadyH.cons (o:=⟨some 45,Op.convert 32 9 (Operand.tmp 44),_,_,_,none⟩) rfl (fun K hK=>?_) AllReadyH.nil)
     have hcv:=uk HB.out
     go_simp
     clear hcv;refine hK.out _ _ (HS.out _ HG.out) (fun hHeld=>?_)
     clear hK K
     (try simp only[Act.put,za,zb,zc])
     refine tk (i:=17) (oi:=⟨some 46,Op.binOp BinOp.add 9 (Operand.tmp 40) (Operand.tmp 45) 9,_,_,_,none⟩) (v:=?_) rfl hHeld ?_ ?_;rotate_left
     ·rintro w ⟨s1,s2⟩;go_simp;try with_reducible rfl
     (try simp only[Act.put,za,zb,zc])
     refine tk (i:=18) (oi:=⟨some 47,Op.build 206 #[(0,Operand.tmp 39),(1,Operand.tmp 46)],_,_,_,none⟩) (v:=?_) rfl hHeld ?_ ?_;rotate_left
     ·rintro w ⟨s1,s2⟩;go_simp;try with_reducible rfl
     (try simp only[Act.put,za,zb,zc])
     refine wpAnyH_ready (rs:=[19]) (by kernel_rfl) (by simp) ?_
     refine(AllReadyH.cons (o:=⟨some 48,Op.buildSlice 186 1 #[(0,Operand.tmp 47)],_,_,_,none⟩) rfl (fun K hK=>?_) AllReadyH.nil)
     go_simp
     have hgb:=ze w8 (.cells #[.int .i64 (oo:Int),.string (ofB zz)] 206) none;have hsz:=HG.out.size;have HY:=zd (je w8 (oo,zz) _ _ rfl rfl)
     try replace HA:=zd (yo.grown HA.out hgb (by simp))
     try replace HB:=zd ((hgb.block _ (Array.getElem?_eq_some_iff.1 HB.out).1 (by simp)).trans HB.out)
     replace HG:=zd (zh HG.out hgb);have HP19:Hid (W1.heap.size≤w8.heap.size):=(show _≤_ from hsz)
     clear hgb hsz;generalize w8.alloc (.cells #[.int .i64 (oo:Int),.string (ofB zz)] 206)=w19 at *;generalize w8.heap.size=b19 at *;refine hK.out _ _ (HS.out _ HG.out) (fun hHeld=>?_)
     clear hK K
     (try simp only[Act.put,za,zb,zc])
     refine wpAnyH_ready (rs:=[20]) (by kernel_rfl) (by simp) ?_
     refine(AllReadyH.cons (o:=⟨some 49,Op.call { callee:=Callee.builtin Builtin.append,args:=#[Operand.tmp 37,Operand.tmp 48],argTypes:=#[186,186] },_,_,_,none⟩) rfl (fun K hK=>?_) AllReadyH.nil)
     refine xc (E:=206) (sz:=2) (enc:=xt) (v:=.slice p8 n c8) (l:=xl) (m:=[(oo,zz)]) rfl _ _ 186 rfl yv xn i0 z0 by0 Tryz.underlying186 hi hz0 hz1 hz2 hz3 (by decide) hz4 rfl HA.out rfl HY.out (by have:=HN.out;have:=HF.out;simp;omega) (n+1) (by have:=HN.out;simp;try omega) ?_
     intro p20 c20 w20 hap;have HG9:=zd (yd HG.out hap.2.1 (fun b hb=>HO8.out b hb))
     have HO20:Hid (∀b,(Value.slice p20 (n+1) c20).ownBlock=some b→W1.heap.size≤b):=(fun b hb=>by
      rcases hap.2.2 with e|e
      ·have hv:=HO8.out
       rw[hb] at e
       exact hv b e.symm
      ·rw[hb] at e
       injection e with e
       have:=HG.out.size;omega)
     have HA9:=zd hap.1;clear HA HG hap;have HA:=zd HA9.out;have HG:=zd HG9.out;clear HA9 HG9;refine hK.out _ _ (HS.out _ HG.out) (fun hHeld=>?_)
     clear hK K
     (try simp only[Act.put,za,zb,zc])
     refine tk (i:=21) (oi:=⟨some 50,Op.indexAddr 183 (Operand.tmp 32) (Operand.tmp 33),_,_,_,none⟩) (v:=?_) rfl hHeld ?_ ?_;rotate_left
     ·rintro w ⟨s1,s2⟩;go_simp;try with_reducible rfl
     (try simp only[Act.put,za,zb,zc])
     refine tk (i:=22) (oi:=⟨some 51,Op.fieldAddr 188 (Operand.tmp 50) 1,_,_,_,none⟩) (v:=?_) rfl hHeld ?_ ?_;rotate_left
     ·rintro w ⟨s1,s2⟩;go_simp;try with_reducible rfl
     (try simp only[Act.put,za,zb,zc])
     refine wpAnyH_ready (rs:=[23]) (by kernel_rfl) (by simp) ?_
     refine(AllReadyH.cons (o:=⟨none,Op.store 186 (Operand.tmp 51) (Operand.tmp 49),_,_,_,none⟩) rfl (fun K hK=>?_) AllReadyH.nil)
     obtain⟨st1,st2⟩:=HST.out _ HG.out
     go_simp
     have HF9:=zd (HLAY.out w20 (.slice p20 (n+1) c20) (zh HG1.out HG.out) HA.out (fun b hb=>Nat.le_trans HG1.out.size (HO20.out b hb)))
     refine hK.out _ _ ⟨ya (b2:=db) (b:=g) (Or.inl (fun e=>hgd e.symm)) (HS.out _ HG.out).1,ya (b2:=mb) (b:=g) (Or.inl (by have:=HMB.out;omega)) (HS.out _ HG.out).2⟩ (fun hHeld=>?_)
     clear hK K
     (try simp only[Act.put,za,zb,zc])
     refine wpAnyH_done (by kernel_rfl) ?_ _
     clear hHeld;have HF10:=HF9;clear HA HG HF9 HP5 HP15 HP19 HO8 HO20 HY HB
     cases sb
     ·go_wp2_with (go_at_call 119;refine(HEND.out _ HF10.out.1 HF10.out.2).mono ?_;rintro e w22 ⟨rfl,hr,ht⟩;have HR:=zd hr;have HT:=zd ht;clear hr ht)
      go_ret
      exact⟨rfl,HR.out,HT.out⟩
     ·go_wp2_with (go_at_call 119;refine(HEND.out _ HF10.out.1 HF10.out.2).mono ?_;rintro e w22 ⟨rfl,hr,ht⟩;have HR:=zd hr;have HT:=zd ht;clear hr ht)
      go_ret
      exact⟨rfl,HR.out,HT.out⟩
    ·have hcv:=uk HB.out
     go_simp
     clear hcv;refine hK.out _ _ (HS.out _ HG.out) (fun hHeld=>?_)
     clear hK K
     (try simp only[Act.put,za,zb,zc])
     refine tk (i:=17) (oi:=⟨some 46,Op.binOp BinOp.add 9 (Operand.tmp 40) (Operand.tmp 45) 9,_,_,_,none⟩) (v:=?_) rfl hHeld ?_ ?_;rotate_left
     ·rintro w ⟨s1,s2⟩;go_simp;try with_reducible rfl
     (try simp only[Act.put,za,zb,zc])
     refine wpAnyH_ready (rs:=[10]) (by kernel_rfl) (by simp) ?_
     refine(AllReadyH.cons (o:=⟨some 39,Op.call { callee:=Callee.value (Operand.func 118),args:=#[Operand.tmp 38],argTypes:=#[60] },_,_,_,none⟩) rfl (fun K hK=>?_) AllReadyH.nil)
     go_simp
     refine(HO.out _ (zh HG1.out HG.out)).mono ?_;rintro e w10 ⟨rfl,h5⟩;obtain rfl:w8=w10:=h5.symm;refine hK.out _ _ (HS.out _ HG.out) (fun hHeld=>?_)
     clear hK K
     (try simp only[Act.put,za,zb,zc])
     refine tk (i:=18) (oi:=⟨some 47,Op.build 206 #[(0,Operand.tmp 39),(1,Operand.tmp 46)],_,_,_,none⟩) (v:=?_) rfl hHeld ?_ ?_;rotate_left
     ·rintro w ⟨s1,s2⟩;go_simp;try with_reducible rfl
     (try simp only[Act.put,za,zb,zc])
     refine wpAnyH_ready (rs:=[19]) (by kernel_rfl) (by simp) ?_
     refine(AllReadyH.cons (o:=⟨some 48,Op.buildSlice 186 1 #[(0,Operand.tmp 47)],_,_,_,none⟩) rfl (fun K hK=>?_) AllReadyH.nil)
     go_simp
     have hgb:=ze w8 (.cells #[.int .i64 (oo:Int),.string (ofB zz)] 206) none;have hsz:=HG.out.size;have HY:=zd (je w8 (oo,zz) _ _ rfl rfl)
     try replace HA:=zd (yo.grown HA.out hgb (by simp))
     try replace HB:=zd ((hgb.block _ (Array.getElem?_eq_some_iff.1 HB.out).1 (by simp)).trans HB.out)
     replace HG:=zd (zh HG.out hgb);have HP19:Hid (W1.heap.size≤w8.heap.size):=(show _≤_ from hsz)
     clear hgb hsz;generalize w8.alloc (.cells #[.int .i64 (oo:Int),.string (ofB zz)] 206)=w19 at *;generalize w8.heap.size=b19 at *;refine hK.out _ _ (HS.out _ HG.out) (fun hHeld=>?_)
     clear hK K
     (try simp only[Act.put,za,zb,zc])
     refine wpAnyH_ready (rs:=[20]) (by kernel_rfl) (by simp) ?_
     refine(AllReadyH.cons (o:=⟨some 49,Op.call { callee:=Callee.builtin Builtin.append,args:=#[Operand.tmp 37,Operand.tmp 48],argTypes:=#[186,186] },_,_,_,none⟩) rfl (fun K hK=>?_) AllReadyH.nil)
     refine xc (E:=206) (sz:=2) (enc:=xt) (v:=.slice p8 n c8) (l:=xl) (m:=[(oo,zz)]) rfl _ _ 186 rfl yv xn i0 z0 by0 Tryz.underlying186 hi hz0 hz1 hz2 hz3 (by decide) hz4 rfl HA.out rfl HY.out (by have:=HN.out;have:=HF.out;simp;omega) (n+1) (by have:=HN.out;simp;try omega) ?_
     intro p20 c20 w20 hap;have HG9:=zd (yd HG.out hap.2.1 (fun b hb=>HO8.out b hb))
     have HO20:Hid (∀b,(Value.slice p20 (n+1) c20).ownBlock=some b→W1.heap.size≤b):=(fun b hb=>by
      rcases hap.2.2 with e|e
      ·have hv:=HO8.out
       rw[hb] at e
       exact hv b e.symm
      ·rw[hb] at e
       injection e with e
       have:=HG.out.size;omega)
     have HA9:=zd hap.1;clear HA HG hap;have HA:=zd HA9.out;have HG:=zd HG9.out;clear HA9 HG9;refine hK.out _ _ (HS.out _ HG.out) (fun hHeld=>?_)
     clear hK K
     (try simp only[Act.put,za,zb,zc])
     refine tk (i:=21) (oi:=⟨some 50,Op.indexAddr 183 (Operand.tmp 32) (Operand.tmp 33),_,_,_,none⟩) (v:=?_) rfl hHeld ?_ ?_;rotate_left
     ·rintro w ⟨s1,s2⟩;go_simp;try with_reducible rfl
     (try simp only[Act.put,za,zb,zc])
     refine tk (i:=22) (oi:=⟨some 51,Op.fieldAddr 188 (Operand.tmp 50) 1,_,_,_,none⟩) (v:=?_) rfl hHeld ?_ ?_;rotate_left
     ·rintro w ⟨s1,s2⟩;go_simp;try with_reducible rfl
     (try simp only[Act.put,za,zb,zc])
     refine wpAnyH_ready (rs:=[23]) (by kernel_rfl) (by simp) ?_
     refine(AllReadyH.cons (o:=⟨none,Op.store 186 (Operand.tmp 51) (Operand.tmp 49),_,_,_,none⟩) rfl (fun K hK=>?_) AllReadyH.nil)
     obtain⟨st1,st2⟩:=HST.out _ HG.out
     go_simp
     have HF9:=zd (HLAY.out w20 (.slice p20 (n+1) c20) (zh HG1.out HG.out) HA.out (fun b hb=>Nat.le_trans HG1.out.size (HO20.out b hb)))
     refine hK.out _ _ ⟨ya (b2:=db) (b:=g) (Or.inl (fun e=>hgd e.symm)) (HS.out _ HG.out).1,ya (b2:=mb) (b:=g) (Or.inl (by have:=HMB.out;omega)) (HS.out _ HG.out).2⟩ (fun hHeld=>?_)
     clear hK K
     (try simp only[Act.put,za,zb,zc])
     refine wpAnyH_done (by kernel_rfl) ?_ _
     clear hHeld;have HF10:=HF9;clear HA HG HF9 HP5 HP15 HP19 HO8 HO20 HY HB
     cases sb
     ·go_wp2_with (go_at_call 119;refine(HEND.out _ HF10.out.1 HF10.out.2).mono ?_;rintro e w22 ⟨rfl,hr,ht⟩;have HR:=zd hr;have HT:=zd ht;clear hr ht)
      go_ret
      exact⟨rfl,HR.out,HT.out⟩
     ·go_wp2_with (go_at_call 119;refine(HEND.out _ HF10.out.1 HF10.out.2).mono ?_;rintro e w22 ⟨rfl,hr,ht⟩;have HR:=zd hr;have HT:=zd ht;clear hr ht)
      go_ret
      exact⟨rfl,HR.out,HT.out⟩
   ·have hcv:=uk HB.out
    go_simp
    clear hcv;refine hK.out _ _ (HS.out _ HG.out) (fun hHeld=>?_)
    clear hK K
    (try simp only[Act.put,za,zb,zc])
    refine tk (i:=17) (oi:=⟨some 46,Op.binOp BinOp.add 9 (Operand.tmp 40) (Operand.tmp 45) 9,_,_,_,none⟩) (v:=?_) rfl hHeld ?_ ?_;rotate_left
    ·rintro w ⟨s1,s2⟩;go_simp;try with_reducible rfl
    (try simp only[Act.put,za,zb,zc])
    refine wpAnyH_ready (rs:=[8]) (by kernel_rfl) (by simp) ?_
    refine(AllReadyH.cons (o:=⟨some 37,Op.call { callee:=Callee.builtin Builtin.append,args:=#[Operand.tmp 34,Operand.tmp 36],argTypes:=#[186,186] },_,_,_,none⟩) rfl (fun K hK=>?_) AllReadyH.nil)
    refine xc (E:=206) (sz:=2) (enc:=xt) (v:=.slice (some ⟨b5,0,none⟩) 0 0) (l:=[]) (m:=xl) rfl _ _ 186 rfl yv xn i0 z0 by0 Tryz.underlying186 hi hz0 hz1 hz2 hz3 (by decide) hz4 rfl HA.out rfl (HL.out.y (zh HG1.out HG.out)) (by have:=HN.out;have:=HF.out;simp;omega) (n) (by have:=HN.out;simp;try omega) ?_
    intro p8 c8 w8 hap;replace HB:=zd ((hap.2.1.block _ (Array.getElem?_eq_some_iff.1 HB.out).1 (fun e=>qf HA.out HB.out (by decide) e.symm)).trans HB.out)
    have HG9:=zd (yd HG.out hap.2.1 (fun b hb=>by have:=HP5.out;simp[Value.ownBlock] at hb;omega))
    have HO8:Hid (∀b,(Value.slice p8 (n) c8).ownBlock=some b→W1.heap.size≤b):=(fun b hb=>by
     rcases hap.2.2 with e|e
     ·have hv:=HP5.out
      rw[hb] at e;simp[Value.ownBlock] at e;omega
     ·rw[hb] at e
      injection e with e
      have:=HG.out.size;omega)
    have HA9:=zd hap.1;clear HA HG hap;have HA:=zd HA9.out;have HG:=zd HG9.out;clear HA9 HG9;refine hK.out _ _ (HS.out _ HG.out) (fun hHeld=>?_)
    clear hK K
    (try simp only[Act.put,za,zb,zc])
    refine wpAnyH_ready (rs:=[10]) (by kernel_rfl) (by simp) ?_
    refine(AllReadyH.cons (o:=⟨some 39,Op.call { callee:=Callee.value (Operand.func 118),args:=#[Operand.tmp 38],argTypes:=#[60] },_,_,_,none⟩) rfl (fun K hK=>?_) AllReadyH.nil)
    go_simp
    refine(HO.out _ (zh HG1.out HG.out)).mono ?_;rintro e w10 ⟨rfl,h5⟩;obtain rfl:w8=w10:=h5.symm;refine hK.out _ _ (HS.out _ HG.out) (fun hHeld=>?_)
    clear hK K
    (try simp only[Act.put,za,zb,zc])
    refine tk (i:=18) (oi:=⟨some 47,Op.build 206 #[(0,Operand.tmp 39),(1,Operand.tmp 46)],_,_,_,none⟩) (v:=?_) rfl hHeld ?_ ?_;rotate_left
    ·rintro w ⟨s1,s2⟩;go_simp;try with_reducible rfl
    (try simp only[Act.put,za,zb,zc])
    refine wpAnyH_ready (rs:=[19]) (by kernel_rfl) (by simp) ?_
    refine(AllReadyH.cons (o:=⟨some 48,Op.buildSlice 186 1 #[(0,Operand.tmp 47)],_,_,_,none⟩) rfl (fun K hK=>?_) AllReadyH.nil)
    go_simp
    have hgb:=ze w8 (.cells #[.int .i64 (oo:Int),.string (ofB zz)] 206) none;have hsz:=HG.out.size;have HY:=zd (je w8 (oo,zz) _ _ rfl rfl)
    try replace HA:=zd (yo.grown HA.out hgb (by simp))
    try replace HB:=zd ((hgb.block _ (Array.getElem?_eq_some_iff.1 HB.out).1 (by simp)).trans HB.out)
    replace HG:=zd (zh HG.out hgb);have HP19:Hid (W1.heap.size≤w8.heap.size):=(show _≤_ from hsz)
    clear hgb hsz;generalize w8.alloc (.cells #[.int .i64 (oo:Int),.string (ofB zz)] 206)=w19 at *;generalize w8.heap.size=b19 at *;refine hK.out _ _ (HS.out _ HG.out) (fun hHeld=>?_)
    clear hK K
    (try simp only[Act.put,za,zb,zc])
    refine wpAnyH_ready (rs:=[20]) (by kernel_rfl) (by simp) ?_
    refine(AllReadyH.cons (o:=⟨some 49,Op.call { callee:=Callee.builtin Builtin.append,args:=#[Operand.tmp 37,Operand.tmp 48],argTypes:=#[186,186] },_,_,_,none⟩) rfl (fun K hK=>?_) AllReadyH.nil)
    refine xc (E:=206) (sz:=2) (enc:=xt) (v:=.slice p8 n c8) (l:=xl) (m:=[(oo,zz)]) rfl _ _ 186 rfl yv xn i0 z0 by0 Tryz.underlying186 hi hz0 hz1 hz2 hz3 (by decide) hz4 rfl HA.out rfl HY.out (by have:=HN.out;have:=HF.out;simp;omega) (n+1) (by have:=HN.out;simp;try omega) ?_
    intro p20 c20 w20 hap;have HG9:=zd (yd HG.out hap.2.1 (fun b hb=>HO8.out b hb))
    have HO20:Hid (∀b,(Value.slice p20 (n+1) c20).ownBlock=some b→W1.heap.size≤b):=(fun b hb=>by
     rcases hap.2.2 with e|e
     ·have hv:=HO8.out
      rw[hb] at e
      exact hv b e.symm
     ·rw[hb] at e
      injection e with e
      have:=HG.out.size;omega)
    have HA9:=zd hap.1;clear HA HG hap;have HA:=zd HA9.out;have HG:=zd HG9.out;clear HA9 HG9;refine hK.out _ _ (HS.out _ HG.out) (fun hHeld=>?_)
    clear hK K
    (try simp only[Act.put,za,zb,zc])
    refine tk (i:=21) (oi:=⟨some 50,Op.indexAddr 183 (Operand.tmp 32) (Operand.tmp 33),_,_,_,none⟩) (v:=?_) rfl hHeld ?_ ?_;rotate_left
    ·rintro w ⟨s1,s2⟩;go_simp;try with_reducible rfl
    (try simp only[Act.put,za,zb,zc])
    refine tk (i:=22) (oi:=⟨some 51,Op.fieldAddr 188 (Operand.tmp 50) 1,_,_,_,none⟩) (v:=?_) rfl hHeld ?_ ?_;rotate_left
    ·rintro w ⟨s1,s2⟩;go_simp;try with_reducible rfl
    (try simp only[Act.put,za,zb,zc])
    refine wpAnyH_ready (rs:=[23]) (by kernel_rfl) (by simp) ?_
    refine(AllReadyH.cons (o:=⟨none,Op.store 186 (Operand.tmp 51) (Operand.tmp 49),_,_,_,none⟩) rfl (fun K hK=>?_) AllReadyH.nil)
    obtain⟨st1,st2⟩:=HST.out _ HG.out
    go_simp
    have HF9:=zd (HLAY.out w20 (.slice p20 (n+1) c20) (zh HG1.out HG.out) HA.out (fun b hb=>Nat.le_trans HG1.out.size (HO20.out b hb)))
    refine hK.out _ _ ⟨ya (b2:=db) (b:=g) (Or.inl (fun e=>hgd e.symm)) (HS.out _ HG.out).1,ya (b2:=mb) (b:=g) (Or.inl (by have:=HMB.out;omega)) (HS.out _ HG.out).2⟩ (fun hHeld=>?_)
    clear hK K
    (try simp only[Act.put,za,zb,zc])
    refine wpAnyH_done (by kernel_rfl) ?_ _
    clear hHeld;have HF10:=HF9;clear HA HG HF9 HP5 HP15 HP19 HO8 HO20 HY HB
    cases sb
    ·go_wp2_with (go_at_call 119;refine(HEND.out _ HF10.out.1 HF10.out.2).mono ?_;rintro e w22 ⟨rfl,hr,ht⟩;have HR:=zd hr;have HT:=zd ht;clear hr ht)
     go_ret
     exact⟨rfl,HR.out,HT.out⟩
    ·go_wp2_with (go_at_call 119;refine(HEND.out _ HF10.out.1 HF10.out.2).mono ?_;rintro e w22 ⟨rfl,hr,ht⟩;have HR:=zd hr;have HT:=zd ht;clear hr ht)
     go_ret
     exact⟨rfl,HR.out,HT.out⟩
  ·have hcv:=uk HB.out
   go_simp
   clear hcv;refine hK.out _ _ (HS.out _ HG.out) (fun hHeld=>?_)
   clear hK K
   (try simp only[Act.put,za,zb,zc])
   refine tk (i:=17) (oi:=⟨some 46,Op.binOp BinOp.add 9 (Operand.tmp 40) (Operand.tmp 45) 9,_,_,_,none⟩) (v:=?_) rfl hHeld ?_ ?_;rotate_left
   ·rintro w ⟨s1,s2⟩;go_simp;try with_reducible rfl
   (try simp only[Act.put,za,zb,zc])
   refine wpAnyH_ready (rs:=[5]) (by kernel_rfl) (by simp) ?_
   refine(AllReadyH.cons (o:=⟨some 34,Op.buildSlice 186 0 #[],_,_,_,none⟩) rfl (fun K hK=>?_) AllReadyH.nil)
   go_simp
   have hgb:=ze w15 (.cells #[] 206) none;have hsz:=HG.out.size;have HA:=zd (zaa w15)
   try replace HA:=zd (yo.grown HA.out hgb (by simp))
   try replace HB:=zd ((hgb.block _ (Array.getElem?_eq_some_iff.1 HB.out).1 (by simp)).trans HB.out)
   replace HG:=zd (zh HG.out hgb);have HP5:Hid (W1.heap.size≤w15.heap.size):=(show _≤_ from hsz)
   clear hgb hsz;generalize w15.alloc (.cells #[] 206)=w5 at *;generalize w15.heap.size=b5 at *;refine hK.out _ _ (HS.out _ HG.out) (fun hHeld=>?_)
   clear hK K
   (try simp only[Act.put,za,zb,zc])
   refine wpAnyH_ready (rs:=[8]) (by kernel_rfl) (by simp) ?_
   refine(AllReadyH.cons (o:=⟨some 37,Op.call { callee:=Callee.builtin Builtin.append,args:=#[Operand.tmp 34,Operand.tmp 36],argTypes:=#[186,186] },_,_,_,none⟩) rfl (fun K hK=>?_) AllReadyH.nil)
   refine xc (E:=206) (sz:=2) (enc:=xt) (v:=.slice (some ⟨b5,0,none⟩) 0 0) (l:=[]) (m:=xl) rfl _ _ 186 rfl yv xn i0 z0 by0 Tryz.underlying186 hi hz0 hz1 hz2 hz3 (by decide) hz4 rfl HA.out rfl (HL.out.y (zh HG1.out HG.out)) (by have:=HN.out;have:=HF.out;simp;omega) (n) (by have:=HN.out;simp;try omega) ?_
   intro p8 c8 w8 hap;replace HB:=zd ((hap.2.1.block _ (Array.getElem?_eq_some_iff.1 HB.out).1 (fun e=>qf HA.out HB.out (by decide) e.symm)).trans HB.out)
   have HG9:=zd (yd HG.out hap.2.1 (fun b hb=>by have:=HP5.out;simp[Value.ownBlock] at hb;omega))
   have HO8:Hid (∀b,(Value.slice p8 (n) c8).ownBlock=some b→W1.heap.size≤b):=(fun b hb=>by
    rcases hap.2.2 with e|e
    ·have hv:=HP5.out
     rw[hb] at e;simp[Value.ownBlock] at e;omega
    ·rw[hb] at e
     injection e with e
     have:=HG.out.size;omega)
   have HA9:=zd hap.1;clear HA HG hap;have HA:=zd HA9.out;have HG:=zd HG9.out;clear HA9 HG9;refine hK.out _ _ (HS.out _ HG.out) (fun hHeld=>?_)
   clear hK K
   (try simp only[Act.put,za,zb,zc])
   refine wpAnyH_ready (rs:=[10]) (by kernel_rfl) (by simp) ?_
   refine(AllReadyH.cons (o:=⟨some 39,Op.call { callee:=Callee.value (Operand.func 118),args:=#[Operand.tmp 38],argTypes:=#[60] },_,_,_,none⟩) rfl (fun K hK=>?_) AllReadyH.nil)
   go_simp
   refine(HO.out _ (zh HG1.out HG.out)).mono ?_;rintro e w10 ⟨rfl,h5⟩;obtain rfl:w8=w10:=h5.symm;refine hK.out _ _ (HS.out _ HG.out) (fun hHeld=>?_)
   clear hK K
   (try simp only[Act.put,za,zb,zc])
   refine tk (i:=18) (oi:=⟨some 47,Op.build 206 #[(0,Operand.tmp 39),(1,Operand.tmp 46)],_,_,_,none⟩) (v:=?_) rfl hHeld ?_ ?_;rotate_left
   ·rintro w ⟨s1,s2⟩;go_simp;try with_reducible rfl
   (try simp only[Act.put,za,zb,zc])
   refine wpAnyH_ready (rs:=[19]) (by kernel_rfl) (by simp) ?_
   refine(AllReadyH.cons (o:=⟨some 48,Op.buildSlice 186 1 #[(0,Operand.tmp 47)],_,_,_,none⟩) rfl (fun K hK=>?_) AllReadyH.nil)
   go_simp
   have hgb:=ze w8 (.cells #[.int .i64 (oo:Int),.string (ofB zz)] 206) none;have hsz:=HG.out.size;have HY:=zd (je w8 (oo,zz) _ _ rfl rfl)
   try replace HA:=zd (yo.grown HA.out hgb (by simp))
   try replace HB:=zd ((hgb.block _ (Array.getElem?_eq_some_iff.1 HB.out).1 (by simp)).trans HB.out)
   replace HG:=zd (zh HG.out hgb);have HP19:Hid (W1.heap.size≤w8.heap.size):=(show _≤_ from hsz)
   clear hgb hsz;generalize w8.alloc (.cells #[.int .i64 (oo:Int),.string (ofB zz)] 206)=w19 at *;generalize w8.heap.size=b19 at *;refine hK.out _ _ (HS.out _ HG.out) (fun hHeld=>?_)
   clear hK K
   (try simp only[Act.put,za,zb,zc])
   refine wpAnyH_ready (rs:=[20]) (by kernel_rfl) (by simp) ?_
   refine(AllReadyH.cons (o:=⟨some 49,Op.call { callee:=Callee.builtin Builtin.append,args:=#[Operand.tmp 37,Operand.tmp 48],argTypes:=#[186,186] },_,_,_,none⟩) rfl (fun K hK=>?_) AllReadyH.nil)
   refine xc (E:=206) (sz:=2) (enc:=xt) (v:=.slice p8 n c8) (l:=xl) (m:=[(oo,zz)]) rfl _ _ 186 rfl yv xn i0 z0 by0 Tryz.underlying186 hi hz0 hz1 hz2 hz3 (by decide) hz4 rfl HA.out rfl HY.out (by have:=HN.out;have:=HF.out;simp;omega) (n+1) (by have:=HN.out;simp;try omega) ?_
   intro p20 c20 w20 hap;have HG9:=zd (yd HG.out hap.2.1 (fun b hb=>HO8.out b hb))
   have HO20:Hid (∀b,(Value.slice p20 (n+1) c20).ownBlock=some b→W1.heap.size≤b):=(fun b hb=>by
    rcases hap.2.2 with e|e
    ·have hv:=HO8.out
     rw[hb] at e
     exact hv b e.symm
    ·rw[hb] at e
     injection e with e
     have:=HG.out.size;omega)
   have HA9:=zd hap.1;clear HA HG hap;have HA:=zd HA9.out;have HG:=zd HG9.out;clear HA9 HG9;refine hK.out _ _ (HS.out _ HG.out) (fun hHeld=>?_)
   clear hK K
   (try simp only[Act.put,za,zb,zc])
   refine tk (i:=21) (oi:=⟨some 50,Op.indexAddr 183 (Operand.tmp 32) (Operand.tmp 33),_,_,_,none⟩) (v:=?_) rfl hHeld ?_ ?_;rotate_left
   ·rintro w ⟨s1,s2⟩;go_simp;try with_reducible rfl
   (try simp only[Act.put,za,zb,zc])
   refine tk (i:=22) (oi:=⟨some 51,Op.fieldAddr 188 (Operand.tmp 50) 1,_,_,_,none⟩) (v:=?_) rfl hHeld ?_ ?_;rotate_left
   ·rintro w ⟨s1,s2⟩;go_simp;try with_reducible rfl
   (try simp only[Act.put,za,zb,zc])
   refine wpAnyH_ready (rs:=[23]) (by kernel_rfl) (by simp) ?_
   refine(AllReadyH.cons (o:=⟨none,Op.store 186 (Operand.tmp 51) (Operand.tmp 49),_,_,_,none⟩) rfl (fun K hK=>?_) AllReadyH.nil)
   obtain⟨st1,st2⟩:=HST.out _ HG.out
   go_simp
   have HF9:=zd (HLAY.out w20 (.slice p20 (n+1) c20) (zh HG1.out HG.out) HA.out (fun b hb=>Nat.le_trans HG1.out.size (HO20.out b hb)))
   refine hK.out _ _ ⟨ya (b2:=db) (b:=g) (Or.inl (fun e=>hgd e.symm)) (HS.out _ HG.out).1,ya (b2:=mb) (b:=g) (Or.inl (by have:=HMB.out;omega)) (HS.out _ HG.out).2⟩ (fun hHeld=>?_)
   clear hK K
   (try simp only[Act.put,za,zb,zc])
   refine wpAnyH_done (by kernel_rfl) ?_ _
   clear hHeld;have HF10:=HF9;clear HA HG HF9 HP5 HP15 HP19 HO8 HO20 HY HB
   cases sb
   ·go_wp2_with (go_at_call 119;refine(HEND.out _ HF10.out.1 HF10.out.2).mono ?_;rintro e w22 ⟨rfl,hr,ht⟩;have HR:=zd hr;have HT:=zd ht;clear hr ht)
    go_ret
    exact⟨rfl,HR.out,HT.out⟩
   ·go_wp2_with (go_at_call 119;refine(HEND.out _ HF10.out.1 HF10.out.2).mono ?_;rintro e w22 ⟨rfl,hr,ht⟩;have HR:=zd hr;have HT:=zd ht;clear hr ht)
    go_ret
    exact⟨rfl,HR.out,HT.out⟩
theorem zey (h:R18 rs W db R) (i:Int) (s:ByteArray) (hs:s.size≤9223372036854775807) (hf:yf R<1000000):Calls Tryz.prog 44 #[.pointer (some ⟨db,0,none⟩),.int .i64 i,.string s] W fun e w'=>e = .returned (.int .i64 (R.writeV i (xu s)))∧R18 (vk rs W w') w' db (R.written i (xu s))∧zm rs W w':=by
 by_cases hm:R.mayE i=0
 ·by_cases hl:s.size≤256
  ·obtain⟨hgn,k,rfl,hik⟩:=zi1 R _ hm
   have:=zkn h k hm s hl hf;have e1:R.writeV (k:Int) (xu s)=if (R.lay k (vr (xu s))).stepB=true then 0 else 180:=by
    unfold RDk.writeV;rw[if_neg (fun h=>h hm),if_neg (by rw[vd];omega),Int.toNat_natCast]
   have e2:R.written (k:Int) (xu s)=if (R.lay k (vr (xu s))).stepB=true then (R.lay k (vr (xu s))).went else (R.lay k (vr (xu s))).fell:=by
    unfold RDk.written;rw[if_pos ⟨hm,by rw[vd];exact hl⟩,Int.toNat_natCast]
   rw[e1,e2]
   exact this
  ·exact zdy h i s hs (Or.inr (by omega))
 ·exact zdy h i s hs (Or.inl hm)
end
end Go.Proofs.YtbcbhlfjgobejaaGreat
