/- starfishref19.Block is the block of a part: the walk. Conditions: numbers in their ranges, at most 230 bytes. SlotsParts: walked. Conditions: the argument is an int. What an opening finds on a disk of one block, of which only the first bytes were written. Plain laws. Conditions: as the theorems say. SlotsTorn: walked. Conditions: two rows of bytes in memory. A law that leaves all old memory alone: its row's last step. Conditions: none. What came in, as it reads; and that it reads behind a call that leaves old memory as it did. Conditions: none. -/
import Derived.Test.YtbcbhlfjgobejaaGreatT17
import Derived.Test.YtbcbhlfjgobejaaGreatT26
import Derived.Test.YtbcbhlfjgobejaaGreatRows
import Derived.WalkKit
import Derived.ProofKit
import Derived.OpenShut
import Derived.Test.YtbcbhlfjgobejaaGreatT25
import Derived.Deep.Slices
import Derived.Deep.Fields
import Derived.ChangeSame
import Derived.ReadAgain
import Derived.ChangeBears
import Derived.Lib.SmallJoins
set_option linter.unusedSimpArgs false
set_option linter.unusedVariables false
namespace Go.Proofs.YtbcbhlfjgobejaaGreat
open Go.RowKit Go.Sf
theorem BSt.form {W w:World} {v:Value} {l:List Int} (h:BSt W v l w):∃p c,v = .slice p l.length c:=by
 rcases h.row.2 with ⟨rfl,h0⟩|⟨g,c,cur,rfl,_⟩
 ·exact⟨none,0,by rw[h0]⟩
 ·exact⟨_,_,rfl⟩
def lenV:Value→Nat
 | .slice _ n _=>n
 | _=>0
theorem hd_told (k index count:Nat) (s:ByteArray) (hs:s.size≤230):[80]++be 8 (k:Int).toNat++be 2 (index:Int).toNat++be 2 (count:Int).toNat ++ [(s.size:Int)]++strB s=hdP ⟨k,index,count,strB s⟩:=by
 have e:be 1 (strB s).length = [(s.size:Int)]:=by
  rw[strB_len,be_eq]
  have h0:be 0 (s.size / 256) = []:=rfl
  have h1:s.size%256=s.size:=by omega
  rw[h0,h1]
  rfl
 unfold hdP
 rw[e]
 simp
theorem hd_fill {p:Prt} (h:p.b.length≤230) {j:Nat} (hj:(hdP p++List.replicate j 0).length=244):hdP p++List.replicate j 0=bodyP p:=by
 unfold bodyP
 rw[List.length_append,List.length_replicate] at hj
 congr 2
 omega
theorem bodyP_BL {p:Prt} (hb:BL p.b):BL (bodyP p):=fun b h=>encP_BL (C:=fun _=>0) hb b (by unfold encP;simp[h])
set_option maxHeartbeats 4000000 in
set_option maxRecDepth 100000 in
theorem rblock_any (k index count:Nat) (s:ByteArray) (hk:k<9223372036854775808) (hi:index<65536) (hc:count<65536) (hs:s.size≤230) (W:World) :
  Calls Tryz.prog 23 #[.int .i64 k,.int .i64 index,.int .i64 count,.string s] W fun e w'=>e = .returned (.string (ofB (encP crcB ⟨k,index,count,strB s⟩)))∧W.grownBy w' none:=by
 have HF:Hid (k<9223372036854775808∧index<65536∧count<65536∧s.size≤230):=(show _∧_ from ⟨hk,hi,hc,hs⟩)
 have hks:((s.size:Int)%256)=(s.size:Int):=by omega
 clear hk hi hc hs
 obtain⟨i0,hi,hz0,hz1,hz2⟩:=info_parts infoU8
 have P0:=Lib.hid (BSt.start W 80)
 go_enter Tryz.func23,Tryz.ntmps23
 go_upto_region 3 with (first
  | (go_at_call 98;have K:=P0.out;refine(bytes02' _ 8 (by omega) (by omega) (by have:=HF.out;omega) (by have:=HF.out;omega) _ 8 rfl).mono ?_;rintro e w1 ⟨y,rfl,hy,hg⟩;have Q0:=Lib.hid (BSt.grow K hg);clear K P0;have Y:=Lib.hid hy;clear hy hg;simp only[])
  | (at_builtin;have K:=Q0.out;refine wpList_raw _ rfl _ _ 32 5 rfl i0 Tryz.underlying32 hi hz0 hz1 hz2 _ _ _ _ rfl K.row _ _ rfl Y.out (by have:=HF.out;simp[be_len,strB_len] <;> omega) (by have:=K.grown.size;omega) ?_;intro v' w2 ho hg hat;have P1:=Lib.hid (BSt.app K ho hg);clear K Q0 Y ho hg hat))
 go_upto_region 4 with (first
  | (go_at_call 98;have K:=P1.out;refine(bytes02' _ 2 (by omega) (by omega) (by have:=HF.out;omega) (by have:=HF.out;omega) _ 2 rfl).mono ?_;rintro e w1 ⟨y,rfl,hy,hg⟩;have Q1:=Lib.hid (BSt.grow K hg);clear K P1;have Y:=Lib.hid hy;clear hy hg;simp only[])
  | (at_builtin;have K:=Q1.out;refine wpList_raw _ rfl _ _ 32 5 rfl i0 Tryz.underlying32 hi hz0 hz1 hz2 _ _ _ _ rfl K.row _ _ rfl Y.out (by have:=HF.out;simp[be_len,strB_len] <;> omega) (by have:=K.grown.size;omega) ?_;intro v' w2 ho hg hat;have P2:=Lib.hid (BSt.app K ho hg);clear K Q1 Y ho hg hat))
 go_upto_region 5 with (first
  | (go_at_call 98;have K:=P2.out;refine(bytes02' _ 2 (by omega) (by omega) (by have:=HF.out;omega) (by have:=HF.out;omega) _ 2 rfl).mono ?_;rintro e w1 ⟨y,rfl,hy,hg⟩;have Q2:=Lib.hid (BSt.grow K hg);clear K P2;have Y:=Lib.hid hy;clear hy hg;simp only[])
  | (at_builtin;have K:=Q2.out;refine wpList_raw _ rfl _ _ 32 5 rfl i0 Tryz.underlying32 hi hz0 hz1 hz2 _ _ _ _ rfl K.row _ _ rfl Y.out (by have:=HF.out;simp[be_len,strB_len] <;> omega) (by have:=K.grown.size;omega) ?_;intro v' w2 ho hg hat;have P3:=Lib.hid (BSt.app K ho hg);clear K Q2 Y ho hg hat))
 go_upto_region 6 with (at_builtin;have K:=BSt.grow P3.out (World.grownBy_alloc _ (.cells #[.int .u8 (s.size:Int)] 5) none);refine wpList_raw _ rfl _ _ 32 5 rfl i0 Tryz.underlying32 hi hz0 hz1 hz2 _ _ _ _ rfl K.row _ _ rfl (raw_one _ _) (by have:=HF.out;simp[be_len,strB_len] <;> omega) (by have:=K.grown.size;omega) ?_;intro v' w2 ho hg hat;have P4:=Lib.hid (BSt.app K ho hg);clear K P3 ho hg hat)
 go_upto_region 7 with (at_builtin;have K:=P4.out;refine Lib.wpList_append_own_string _ rfl _ _ 32 9 rfl _ 5 i0 Tryz.underlying32 Tryz.underlying9 hi hz0 hz1 hz2 _ _ _ rfl K.row _ rfl (by have:=HF.out;unfold maxLen;simp[be_len,strB_len] <;> omega) (by have:=HF.out;simp[be_len,strB_len] <;> omega) (by have:=K.grown.size;omega) ?_;intro v' w2 ho hg hat;have P5:=Lib.hid (BSt.appS K s ho hg);clear K P4 ho hg hat)
 have P6:=P5.out
 rw[hd_told k index count s HF.out.2.2.2] at P6
 have HP6:=Lib.hid P6
 have HL:Hid ((hdP ⟨k,index,count,strB s⟩).length=14+s.size∧s.size≤230):=(show _∧_ from ⟨by rw[hdP_len,strB_len],HF.out.2.2.2⟩)
 have HFI:Hid (∀j,(hdP ⟨k,index,count,strB s⟩++List.replicate j 0).length=244→hdP ⟨k,index,count,strB s⟩++List.replicate j 0=bodyP ⟨k,index,count,strB s⟩):=(fun j hj=>hd_fill (p:=⟨k,index,count,strB s⟩) (by show(strB s).length≤230;rw[strB_len];exact HF.out.2.2.2) hj)
 have HBL:Hid (BL (bodyP ⟨k,index,count,strB s⟩)):=(show BL _ from bodyP_BL (strB_BL s))
 have HBN:Hid ((bodyP ⟨k,index,count,strB s⟩).length=244):=(show _=_ from bodyP_len (by show(strB s).length≤230;rw[strB_len];exact HF.out.2.2.2))
 have HE:Hid (encP crcB ⟨k,index,count,strB s⟩=bodyP ⟨k,index,count,strB s⟩++be 4 (crcB (bodyP ⟨k,index,count,strB s⟩))++be 8 (k:Int).toNat):=(show _=_ from rfl)
 clear P5 P6 hks
 generalize hdP ⟨k,index,count,strB s⟩=hd at *
 generalize bodyP ⟨k,index,count,strB s⟩=bd at *
 go_loopw [9] (fun v wr=>∃j:Nat,(hd++List.replicate j 0).length≤244∧BSt W v (hd++List.replicate j 0) wr) (fun v _=>244-lenV v)
 case atStart=>exact⟨0,by have:=HL.out;simp;omega,by simpa using HP6.out⟩
 case round=>
  obtain⟨j,hj,hst⟩:=hrel
  clear HP6
  obtain⟨p,c,rfl⟩:=hst.form
  have R0:=Lib.hid hst
  clear hst
  by_cases hlt:(hd++List.replicate j 0).length<244
  ·obtain⟨n,hn⟩:∃n,n=(hd++List.replicate j 0).length:=⟨_,rfl⟩
   have HN:=Lib.hid hn
   have hnl:n<244:=by omega
   rw[←hn]
   clear hn hj hlt
   go_wp2_with (at_builtin;have K:=BSt.grow R0.out (World.grownBy_alloc _ (.cells #[.int .u8 0] 5) none);refine wpList_raw _ rfl _ _ 32 5 rfl i0 Tryz.underlying32 hi hz0 hz1 hz2 _ _ _ _ (by rw[HN.out];rfl) K.row _ _ rfl (raw_one _ _) (by have:=HN.out;simp only[List.length_cons,List.length_nil];omega) (by have:=K.grown.size;omega) ?_;intro v' w2 ho hg hat;have R1:=Lib.hid (BSt.app K ho hg);clear K R0 ho hg hat)
   have hrep:hd++List.replicate (j+1) 0=hd++List.replicate j 0 ++ [0]:=by rw[List.replicate_succ',List.append_assoc]
   obtain⟨p',c',rfl⟩:=R1.out.form
   refine⟨⟨j+1,by rw[hrep,List.length_append,←HN.out];simp;omega,by rw[hrep];exact R1.out⟩,?_⟩
   show 244-(hd++List.replicate j 0 ++ [0]).length<244-n
   rw[List.length_append,←HN.out]
   simp
   omega
  ·have hfi:=HFI.out j (by omega)
   have hst:=R0.out
   rw[hfi] at hst
   rw[hfi,HBN.out]
   have R2:=Lib.hid hst
   have HSU:=Lib.hid (rsum_any (raw_of_row hst.row) HBL.out (by rw[HBN.out];omega))
   have HCL:=Lib.hid (crcB_lt bd)
   clear R0 HFI hfi hst hj hlt HL
   go_upto_region 10 with (first
    | (go_at_call 99;have HS2:=HSU.out;rw[HBN.out] at HS2;refine HS2.mono ?_;clear HS2;rintro e w3 ⟨rfl,h5⟩;obtain rfl:wr=w3:=h5.symm)
    | (go_at_call 98;have K:=R2.out;refine(bytes02' _ 4 (by omega) (by omega) (by have:=HCL.out;omega) (by have:=HCL.out;omega) _ 4 rfl).mono ?_;rintro e w1 ⟨y,rfl,hy,hg⟩;have R3:=Lib.hid (BSt.grow K hg);clear K R2;have Y:=Lib.hid hy;clear hy hg;simp only[])
    | (at_builtin;have K:=R3.out;refine wpList_raw _ rfl _ _ 32 5 rfl i0 Tryz.underlying32 hi hz0 hz1 hz2 _ _ _ _ (by rw[HBN.out];rfl) K.row _ _ rfl Y.out (by have:=HBN.out;simp[be_len] <;> omega) (by have:=K.grown.size;omega) ?_;intro v' w2 ho hg hat;have R4:=Lib.hid (BSt.app K ho hg);clear K R3 Y ho hg hat))
   go_wp2_with (first
    | (go_at_call 98;have K:=R4.out;refine(bytes02' _ 8 (by omega) (by omega) (by have:=HF.out;omega) (by have:=HF.out;omega) _ 8 rfl).mono ?_;rintro e w1 ⟨y,rfl,hy,hg⟩;have R5:=Lib.hid (BSt.grow K hg);clear K R4;have Y:=Lib.hid hy;clear hy hg;simp only[])
    | (at_builtin;have K:=R5.out;refine wpList_raw _ rfl _ _ 32 5 rfl i0 Tryz.underlying32 hi hz0 hz1 hz2 _ _ _ _ rfl K.row _ _ rfl Y.out (by have:=HBN.out;simp[be_len] <;> omega) (by have:=K.grown.size;omega) ?_;intro v' w2 ho hg hat;have R6:=Lib.hid (BSt.app K ho hg);clear K R5 Y ho hg hat))
   have hcv:=conv_raw (raw_of_row R6.out.row)
   rw[hcv]
   simp only[Result.andThen]
   rw[Oper.upon_value]
   go_wp2
   go_ret
   refine⟨?_,R6.out.grown⟩
   rw[HE.out]
   simp
theorem get_new {W w:World} {st:Nat} {S:Sto} {b:List Int} {bl:List Nat} {k:Int} (h:StSt W st S w) (hm:mget S.recs k=some (b,bl)):Calls Tryz.prog 21 #[.pointer (some ⟨st,0,none⟩),.int .i64 k] w fun e w'=>w.grownBy w' none∧∃p c,e = .returned (.tuple #[.slice p b.length c,.bool true])∧NewRow w w' (.slice p b.length c) b:=by
 refine(h.get k).mono ?_
 rintro e w' ⟨hg,v,rfl,⟨h0,-⟩|⟨r,h0,hr⟩⟩
 ·rw[hm] at h0;cases h0
 ·rw[hm] at h0
  cases h0
  rw[hm]
  rcases hr.2 with ⟨rfl,h0⟩|⟨g,c,cur,rfl,_⟩
  ·have h0:b.length=0:=h0
   refine⟨hg,none,0,?_,?_⟩
   ·rw[h0];rfl
   ·rw[h0];exact hr
  ·exact⟨hg,_,_,rfl,hr⟩
open Go.Sf
theorem parts_one {n:Nat} (h:n≤230):partsN n=1:=by unfold partsN;omega
theorem chunk_one {b:List Int} (h:b.length≤230):chunk b 0=b:=by
 unfold chunk
 rw[Nat.zero_mul,List.drop_zero,List.take_of_length_le h]
theorem may_one {k:Int} (h1:1≤k) (h2:k≤4611686018427387904) {b:List Int} (h:b.length≤230):MayP ⟨k,0,1,b⟩:=by
 have:=may_chunk h1 h2 (b:=b) (by omega) (j:=0) (by rw[parts_one h];omega)
 rw[parts_one h,chunk_one h] at this
 exact this
theorem good_one {C:List Int→Nat} {k:Int} (h1:1≤k) (h2:k≤4611686018427387904) {b:List Int} (h:b.length≤230) {f:Nat→List Int} (hf:f 0=encP C ⟨k,0,1,b⟩):Good C f 1 [(k,b)] (fun q=>if q=k then [0] else []) (k+1):=by
 have g0:=(good_new (C:=C) (f:=fun _=>zeroB) 1 (fun i _=>rfl)).up h1
 have hi0:∀i,i<1→i=0:=fun i hi=>by omega
 have hg:∀(j i:Nat),([0]:List Nat)[j]? = some i→j=0∧i=0:=fun j i hj=>by
  cases j with
  | zero=>simpa using hj.symm
  | succ j=>simp at hj
 rcases g0.put h2 (b:=b) (by omega) (fr:=[0]) (by rw[parts_one h];rfl) (by simp) (by simp) (by simp) (f':=f) (fun i hi hn=>absurd (by simp;omega) hn) (fun j i hj=>by
  obtain⟨rfl,rfl⟩:=hg j i hj
  rw[parts_one h,chunk_one h]
  exact Or.inr (Or.inr hf)) with g|⟨-,g⟩
 ·have hs:saidP C (f 0)=some ⟨k,0,1,b⟩:=by rw[hf];exact said_enc (may_one h1 h2 h)
  obtain⟨j,hj,hno⟩:=g.part 0 (by omega) _ hs (by simp) 1 (Nat.le_refl _)
  obtain rfl:j=0:=by omega
  exact absurd hs (hno 0 (by omega) b)
 ·exact g
theorem recs_of {d:Dk} {ks:List Key19} (hk:KeysOf d ks) {f:Nat→List Int} {all:List (Int × List Int)} {blk:Int→List Nat} {next:Int} (g:Good crcB f d.n all blk next) (hs:∀i,i<d.n→saidP crcB (bk d.now i)=saidP crcB (f i)):(openS d ks).recs=all.map fun q=>(q.1,(q.2,blk q.1)):=by
 have e:=scan_same (C:=crcB) (N:=d.n) (f:=f) (g:=bk d.now) hs d.n (Nat.le_refl _)
 have hk1:=hk.1
 rw[e] at hk1
 unfold openS
 rw[pickSto_recs,e]
 exact good_pick g hk1 hk.2
theorem torn_open {d:Dk} (hn:d.n=1) {la lb:List Int} (hla:la.length≤230) (hlb:lb.length≤230) (cut:Nat) (hx:bk d.now 0=mixB cut (encP crcB ⟨8,0,1,lb⟩) (encP crcB ⟨7,0,1,la⟩)) {ks:List Key19} (hk:KeysOf d ks) :
  (openS d ks).recs = []∨(∃bl,(openS d ks).recs = [(7,(la,bl))])∨(∃bl,(openS d ks).recs = [(8,(lb,bl))]∧mixB cut (encP crcB ⟨8,0,1,lb⟩) (encP crcB ⟨7,0,1,la⟩)=encP crcB ⟨8,0,1,lb⟩):=by
 have m7:=may_one (k:=7) (by omega) (by omega) hla
 have m8:=may_one (k:=8) (by omega) (by omega) hlb
 have hs:∀i,i<d.n→saidP crcB (bk d.now i)=saidP crcB ((fun _=>scrub crcB (bk d.now 0)) i):=fun i hi=>by
  obtain rfl:i=0:=by omega
  exact(said_scrub _).symm
 rcases scrub_mix (C:=crcB) (old:=encP crcB ⟨7,0,1,la⟩) (Or.inr ⟨_,said_enc m7⟩) m8 (fun p hp=>by
  rw[said_enc m7] at hp
  cases hp
  show(7:Int)≠8
  decide) cut with e|e|e
 ·right;left
  refine⟨_,(recs_of hk (all:=[(7,la)]) (blk:=fun q=>if q=7 then [0] else []) (by
   rw[hn]
   exact good_one (by omega) (by omega) hla (f:=fun _=>scrub crcB (bk d.now 0)) (by show scrub crcB (bk d.now 0)=_;rw[hx];exact e)) hs).trans rfl⟩
 ·left
  exact recs_of hk (all:=[]) (blk:=fun _=>[]) (good_new d.n (f:=fun _=>scrub crcB (bk d.now 0)) (fun i _=>by show scrub crcB (bk d.now 0)=_;rw[hx];exact e)) hs
 ·right;right
  refine⟨_,(recs_of hk (all:=[(8,lb)]) (blk:=fun q=>if q=8 then [0] else []) (by
   rw[hn]
   exact good_one (by omega) (by omega) hlb (f:=fun _=>scrub crcB (bk d.now 0)) (by show scrub crcB (bk d.now 0)=_;rw[hx];exact e)) hs).trans rfl,?_⟩
  have h1:=said_scrub (C:=crcB) (mixB cut (encP crcB ⟨8,0,1,lb⟩) (encP crcB ⟨7,0,1,la⟩))
  rw[e,said_enc m8] at h1
  exact(said_some h1.symm).2.symm
theorem Steady.opn {d:Dk} (h:Steady d):∀n,n≤d.n→(opnD d n).2.1=0∧Steady (opnD d n).1∧(opnD d n).1.n=d.n
 | 0,_=>⟨rfl,h,rfl⟩
 | n+1,hn=>by
  obtain⟨h1,h2,h3⟩:=Steady.opn h n (by omega)
  by_cases hc:(saidP crcB (bk d.now n)).isSome=true∨bk d.now n=zeroB
  ·rw[opnD_clean h1 hc]
   exact⟨h1,h2,h3⟩
  ·have hc1:(saidP crcB (bk d.now n)).isSome=false:=by
    cases e:(saidP crcB (bk d.now n)).isSome
    ·rfl
    ·exact absurd (Or.inl e) hc
   rw[opnD_scrub h1 hc1 (fun e=>hc (Or.inr e))]
   obtain⟨e1,e2,e3,-⟩:=h2.wrote (i:=n) (b:=[]) (by omega) (by simp)
   exact⟨e1,e2,e3.trans h3⟩
theorem Steady.opened {d:Dk} (h:Steady d):d.opened.2=0:=by
 obtain⟨h1,h2,h3⟩:=Steady.opn h d.n (Nat.le_refl _)
 unfold Dk.opened
 rw[if_neg (by simp[h1])]
 split
 ·exact h2.sync.1
 ·rfl
theorem open_steady {W w:World} {db:Nat} {d:Dk} (hg:W.grownBy w none) (hd:DRep (fun k=>k<W.heap.size) w db d) (hs:Steady d) (hl:d.late.length+d.n<1000000) :
  Calls Tryz.prog 18 #[.pointer (some ⟨db,0,none⟩)] w fun e w'=>∃st ks,e = .returned (.tuple #[.pointer (some ⟨st,0,none⟩),.int .i64 0])∧KeysOf d ks∧StSt W st (openS d ks) w':=by
 refine(sopen hd hs.1 hl).mono ?_
 rintro e w' ⟨ht,hp⟩
 rcases hp with ⟨h1,_⟩|⟨_,st,ks,rfl,hk,hss⟩
 ·exact absurd hs.opened h1
 ·exact⟨st,ks,rfl,hk,_,db,fun k hk=>hk,hss,turn_grown2 hg (fun k hk=>hk) ht⟩
theorem StSt.numbers {W w:World} {st:Nat} {S:Sto} (h:StSt W st S w) (hk:∀r∈S.recs,1≤r.1∧r.1≤4611686018427387904) (hl:S.recs.length≤1000000):Calls Tryz.prog 26 #[.pointer (some ⟨st,0,none⟩)] w fun e w'=>w.grownBy w' none∧∃v,e = .returned v∧w'.ownsRow w.heap.size 2 1 v S.recs.length (((S.recs.map (·.1)).mergeSort fun x y=>decide (x≤y)).map (Value.int .i64)):=by
 obtain⟨own,db,h1,⟨mb,tb,rv,rb,hs⟩,h3⟩:=h
 exact snumbers hs hk hl
theorem mix_str {NL OL:List Int} (cut:Nat) (ho:OL.length=256):(ofB NL).extract 0 cut++(ofB OL).extract cut 256=ofB (mixB cut NL OL):=by
 apply ByteArray.ext
 rw[ByteArray.data_append,ByteArray.data_extract,ByteArray.data_extract]
 apply Array.ext'
 rw[Array.toList_append,Array.toList_extract,Array.toList_extract]
 unfold ofB mixB
 simp only[List.extract_eq_take_drop,List.map_append,List.drop_zero,List.map_take,List.map_drop,Nat.sub_zero]
 rw[List.take_of_length_le (l:=List.drop cut _) (by simp;omega)]
theorem mix_BL {NL OL:List Int} (cut:Nat) (hn:BL NL) (ho:BL OL):BL (mixB cut NL OL):=fun b hb=>by
 unfold mixB at hb
 rcases List.mem_append.1 hb with h|h
 ·exact hn b (List.mem_of_mem_take h)
 ·exact ho b (List.mem_of_mem_drop h)
structure TnD (ML:List Int) (D1 D2:Dk):Prop where
 w:(Dk.new 1).writeV 0 ML=0∧(Dk.new 1).written 0 ML=D1
 y:D1.syncV=0∧D1.synced=D2
 late:D1.late.length=1
 st:Steady D2
 n:D2.n=1
 lt:D2.late = []
 bk:bk D2.now 0=ML
theorem steady_now {d:Dk} (h:Steady d):d.synced.now=d.now:=by
 unfold Dk.synced
 simp only[h.1,h.step,Bool.false_eq_true,if_false,if_true]
 rfl
theorem tnd {ML:List Int} (h:ML.length=256):∃D1 D2,TnD ML D1 D2:=by
 obtain⟨a1,a2,a3,a4,a5,-⟩:=(steady_new 1).wrote (i:=0) (b:=ML) (by decide) (by omega)
 obtain⟨b1,b2,b3,b4⟩:=a2.sync
 have e:=steady_now a2
 refine⟨_,_,⟨a1,rfl⟩,⟨b1,rfl⟩,a4,b2,b3.trans a3,b4,?_⟩
 show bk ((Dk.new 1).written ((0:Nat):Int) ML).synced.now 0=ML
 rw[e,a5,bk_put_same]
 unfold padB
 rw[h]
 simp
theorem num_nil {w:World} {base:Nat} {e:TypeId} {v:Value} {xs:List Value} (h:w.ownsRow base e 1 v 0 xs):∃p c,v = .slice p 0 c:=by
 rcases h.2 with ⟨rfl,h0⟩|⟨g,c,cur,rfl,_⟩
 ·exact⟨none,0,rfl⟩
 ·exact⟨_,_,rfl⟩
theorem num_one {W w:World} {base:Nat} {v:Value} {k:Int} (h:w.ownsRow base 2 1 v 1 (([k].mergeSort fun x y=>decide (x≤y)).map (Value.int .i64))):∃g c,v = .slice (some ⟨g,0,none⟩) 1 c∧g<w.heap.size∧w.cell? ⟨g,0,none⟩=some (.int .i64 k):=by
 rcases h.2 with ⟨_,h0⟩|⟨g,c,cur,rfl,hg,hh,h1,h2,h3,h4⟩
 ·omega
 ·refine⟨g,c,rfl,?_,?_⟩
  ·rcases Nat.lt_or_ge g w.heap.size with h|h
   ·exact h
   ·rw[Array.getElem?_eq_none h] at hh;cases hh
  ·refine(cell_block hh 0).trans ?_
   rw[List.mergeSort_singleton] at h4
   have:=congrArg (fun l:List Value=>l[0]?) h4
   simp only[List.getElem?_take] at this
   simpa using this
set_option maxRecDepth 100000 in
set_option maxHeartbeats 8000000 in
theorem torn_long (va vb:Value) (la lb:List Int) (cut:Nat) (W:World) (ha:RawRow W va la) (hb:RawRow W vb lb) (hl:230<la.length∨230<lb.length):Calls Tryz.prog 4 #[va,vb,.int .u8 (cut:Int)] W fun e w'=>e = .returned (.bool true)∧W.grownBy w' none:=by
 obtain⟨pa,ca,rfl,-⟩:=ha.ex
 obtain⟨pb,cb,rfl,-⟩:=hb.ex
 clear ha hb
 generalize la.length=na at *
 generalize lb.length=nb at *
 have HW:=Lib.hid works9_any
 by_cases h1:230<na
 ·clear hl
  go_enter Tryz.func4,Tryz.ntmps4
  go_wp2_with (go_at_call 17;refine(HW.out _).mono ?_;rintro e w1 ⟨rfl,hg⟩;have HG:=Lib.hid hg;clear hg)
  go_ret
  exact⟨rfl,HG.out⟩
 ·have h2:230<nb:=by omega
  clear hl
  go_enter Tryz.func4,Tryz.ntmps4
  go_wp2_with (go_at_call 17;refine(HW.out _).mono ?_;rintro e w1 ⟨rfl,hg⟩;have HG:=Lib.hid hg;clear hg)
  go_ret
  exact⟨rfl,HG.out⟩
set_option maxRecDepth 100000 in
set_option maxHeartbeats 8000000 in
theorem torn_short (va vb:Value) (la lb:List Int) (cut:Nat) (hcut:cut<256) (W:World) (ha:RawRow W va la) (hb:RawRow W vb lb) (hla:BL la) (hlb:BL lb) (h1:la.length≤230) (h2:lb.length≤230):Calls Tryz.prog 4 #[va,vb,.int .u8 (cut:Int)] W fun e w'=>e = .returned (.bool true)∧W.grownBy w' none:=by
 have HA:=Lib.hid ha
 have HB:=Lib.hid hb
 have HL:Hid (la.length≤230∧lb.length≤230∧BL la∧BL lb∧cut<256):=(show _∧_ from ⟨h1,h2,hla,hlb,hcut⟩)
 have hca:=conv_raw ha
 have HBA:Hid (∀w:World,Calls Tryz.prog 23 #[.int .i64 7,.int .i64 0,.int .i64 1,.string (ofB la)] w fun e w'=>e = .returned (.string (ofB (encP crcB ⟨7,0,1,la⟩)))∧w.grownBy w' none):=(show ∀w:World,Calls _ _ _ _ _ from fun w=>by
  have:=rblock_any 7 0 1 (ofB la) (by omega) (by omega) (by omega) (by rw[ofB_size];exact h1) w
  rw[strB_ofB hla] at this
  exact this)
 have HBB:Hid (∀w:World,Calls Tryz.prog 23 #[.int .i64 8,.int .i64 0,.int .i64 1,.string (ofB lb)] w fun e w'=>e = .returned (.string (ofB (encP crcB ⟨8,0,1,lb⟩)))∧w.grownBy w' none):=(show ∀w:World,Calls _ _ _ _ _ from fun w=>by
  have:=rblock_any 8 0 1 (ofB lb) (by omega) (by omega) (by omega) (by rw[ofB_size];exact h2) w
  rw[strB_ofB hlb] at this
  exact this)
 obtain⟨pa,ca,rfl,-⟩:=ha.ex
 obtain⟨pb,cb,rfl,-⟩:=hb.ex
 obtain⟨OL,hOL⟩:∃x,x=encP crcB ⟨7,0,1,la⟩:=⟨_,rfl⟩
 obtain⟨NL,hNL⟩:∃x,x=encP crcB ⟨8,0,1,lb⟩:=⟨_,rfl⟩
 rw[←hOL] at HBA
 rw[←hNL] at HBB
 have hzo:(ofB OL).size=256:=by rw[ofB_size,hOL];exact encP_len h1
 have hzn:(ofB NL).size=256:=by rw[ofB_size,hNL];exact encP_len h2
 have HO:=Lib.hid hOL
 have HN:=Lib.hid hNL
 clear hOL hNL ha hb hla hlb
 have HW:=Lib.hid works9_any
 go_enter Tryz.func4,Tryz.ntmps4
 go_upto_region 4 with (go_at_call 23;refine(HBA.out _).mono ?_;rintro e w1 ⟨rfl,hg⟩;have HG1:=Lib.hid hg;clear hg)
 have hcb:=conv_raw (HB.out.grown HG1.out (by simp))
 clear hca
 go_upto_region 6 with (first
  | (go_at_call 23;refine(HBB.out _).mono ?_;rintro e w2 ⟨rfl,hg⟩;have HG2:=Lib.hid (grown_trans HG1.out hg);clear hg;have HDN:=Lib.hid (dnew 1 w2))
  | (go_at_call 19;refine HDN.out.mono ?_;rintro e w3 ⟨db,rfl,hg3,-,hd3⟩;have HG3:=Lib.hid (grown_trans HG2.out hg3);have HD:=Lib.hid (hd3 (fun k=>k<W.heap.size) (fun k hk=>Nat.lt_of_lt_of_le hk HG2.out.size));clear hg3 hd3 HDN HG2))
 clear hcb
 have hc1:(cut:Int)≤256:=by omega
 refine wp_region_quiet_ext (by kernel_rfl) (by kernel_rfl) ?_
 repeat (any_goals (first|go_big_quiet_step (fail)|quiet_step (fail)))
 refine wpQuiet_nil ?_
 intro _ hw'
 obtain⟨x,hw''⟩:=hw'
 subst hw''
 have HG4:=Lib.hid (grown_ext' HG3.out x)
 have HD4:=Lib.hid (HD.out.kept (grown_ext w3 x))
 clear HG3 HD
 generalize ext w3 x=w4 at *
 have hmx:(ofB NL).extract 0 cut++(ofB OL).extract cut 256=ofB (mixB cut NL OL):=mix_str cut (by rw[ofB_size] at hzo;exact hzo)
 have HML:Hid (BL (mixB cut NL OL)∧(mixB cut NL OL).length=256):=(show _∧_ from ⟨mix_BL cut (by rw[HN.out];exact encP_BL HL.out.2.2.2.1) (by rw[HO.out];exact encP_BL HL.out.2.2.1),by
  rw[ofB_size] at hzo hzn
  rw[mix_len (by omega),hzo]⟩)
 rw[hmx]
 clear hmx
 obtain⟨D1,D2,HTD⟩:=tnd HML.out.2
 obtain⟨y,w5,hcv,hg5,hy⟩:=conv_str w4 (ofB (mixB cut NL OL))
 rw[strB_ofB HML.out.1] at hy
 have HG5:=Lib.hid (grown_trans HG4.out hg5)
 have HWR:=Lib.hid (dwrite (HD4.out.kept hg5) 0 hy HML.out.1 (by decide))
 rw[HTD.w.1,HTD.w.2] at HWR
 have HT:=Lib.hid HTD
 clear HTD hg5 hy HD4 HG4
 go_upto_region 12 with (first
  | rw[hcv]
  | (go_at_call 24;refine HWR.out.mono ?_;rintro e w6 ⟨rfl,hd6,ht6⟩;have HG6:=Lib.hid (turn_grown2 HG5.out (fun k hk=>hk) ht6);have HSY:=Lib.hid (dsync hd6);rw[HT.out.y.1,HT.out.y.2] at HSY;clear hd6 ht6)
  | (go_at_call 25;refine HSY.out.mono ?_;rintro e w7 ⟨rfl,hd7,ht7⟩;have HG7:=Lib.hid (turn_grown2 HG6.out (fun k hk=>hk) ht7);have HOP:=Lib.hid (open_steady HG7.out hd7 HT.out.st (by rw[HT.out.lt,HT.out.n];decide));clear hd7 ht7)
  | (go_at_call 18;refine HOP.out.mono ?_;rintro e w8 ⟨st,ks,rfl,hks,hst⟩;have HK:=Lib.hid hks;have HS:=Lib.hid hst;clear hks hst HOP))
 have hcase:=torn_open HT.out.n HL.out.1 HL.out.2.1 cut (by rw[HT.out.bk,HO.out,HN.out]) HK.out
 rw[←HN.out,←HO.out] at hcase
 have HG8:=Lib.hid HS.out.gr
 generalize openS D2 ks=S at *
 clear HK HT HG7 HG6 HG5 HBA HBB hcv
 rcases hcase with hr|⟨bl,hr⟩|⟨bl,hr,hmn⟩
 ·have HNU:=Lib.hid (HS.out.numbers (by rw[hr];simp) (by rw[hr];simp))
  rw[hr] at HNU
  go_upto_region 13 with (go_at_call 26;refine HNU.out.mono ?_;rintro e w9 ⟨hg,v,rfl,hv⟩;have HG9:=Lib.hid (grown_trans HG8.out hg);obtain⟨p,c,rfl⟩:=num_nil hv;clear hg hv)
  go_wp2
  go_loopw [14] (fun i wr=>w9=wr∧i = .int .i64 0) (fun i _=>0)
  case atStart=>exact⟨rfl,rfl⟩
  case round=>
   obtain⟨rfl,rfl⟩:=hrel
   go_wp2_with (go_at_call 17;refine(HW.out _).mono ?_;rintro e w10 ⟨rfl,hg⟩;have HG10:=Lib.hid hg;clear hg)
   go_ret
   exact⟨rfl,grown_trans HG9.out HG10.out⟩
 ·have HNU:=Lib.hid (HS.out.numbers (by rw[hr];simp) (by rw[hr];simp))
  rw[hr] at HNU
  have HGE:=Lib.hid (fun (w:World) (hg:w8.grownBy w none)=>get_new (HS.out.grown hg) (k:=7) (b:=la) (bl:=bl) (by rw[hr];rfl))
  go_upto_region 13 with (go_at_call 26;refine HNU.out.mono ?_;rintro e w9 ⟨hg,v,rfl,hv⟩;have HG9:=Lib.hid hg;obtain⟨g,c,rfl,hgl,hgc⟩:=num_one (W:=w9) hv;have HGC:=Lib.hid hgc;have HGL:=Lib.hid hgl;clear hg hv hgc hgl HNU)
  go_wp2
  go_loopw [14] (fun i wr=>w9.grownBy wr none∧(i = .int .i64 0∨i = .int .i64 1)) (fun i _=>1-(intOf i).toNat)
  case atStart=>exact⟨grown_refl _,Or.inl rfl⟩
  case round=>
   obtain⟨hg,rfl|rfl⟩:=hrel
   ·have hcell:wr.cell? ⟨g,0,none⟩=some (.int .i64 7):=hg.cell HGC.out (by simp)
    have HGR:=Lib.hid hg
    have HGT:=Lib.hid (HGE.out wr (grown_trans HG9.out hg))
    clear hg
    go_upto_region 17 with (go_at_call 21;refine HGT.out.mono ?_;rintro e w10 ⟨hg,p10,c10,rfl,hnr⟩;have HR10:=Lib.hid hg;have HG10:=Lib.hid (grown_trans HGR.out hg);have hc10:=conv_raw (raw_of_row hnr);have hcell10:w10.cell? ⟨g,0,none⟩=some (.int .i64 7):=hg.cell hcell (by simp);clear hg hnr HGT)
    have hcva:=conv_raw ((HA.out.grown HG8.out (by simp)).grown (grown_trans HG9.out HG10.out) (by simp))
    have hcvb:=conv_raw ((HB.out.grown HG8.out (by simp)).grown (grown_trans HG9.out HG10.out) (by simp))
    have hself:∀z:ByteArray,(z.toList == z.toList)=true:=fun z=>by simp
    clear hcell
    go_wp2
    exact⟨⟨HG10.out,Or.inr rfl⟩,by simp[intOf]⟩
   ·have HGR:=Lib.hid hg
    clear hg
    go_wp2_with (go_at_call 17;refine(HW.out _).mono ?_;rintro e w10 ⟨rfl,hg⟩;have HG10:=Lib.hid hg;clear hg)
    go_ret
    exact⟨rfl,grown_trans HG8.out (grown_trans HG9.out (grown_trans HGR.out HG10.out))⟩
 ·have HNU:=Lib.hid (HS.out.numbers (by rw[hr];simp) (by rw[hr];simp))
  rw[hr] at HNU
  have HGE:=Lib.hid (fun (w:World) (hg:w8.grownBy w none)=>get_new (HS.out.grown hg) (k:=8) (b:=lb) (bl:=bl) (by rw[hr];rfl))
  rw[hmn]
  go_upto_region 13 with (go_at_call 26;refine HNU.out.mono ?_;rintro e w9 ⟨hg,v,rfl,hv⟩;have HG9:=Lib.hid hg;obtain⟨g,c,rfl,hgl,hgc⟩:=num_one (W:=w9) hv;have HGC:=Lib.hid hgc;have HGL:=Lib.hid hgl;clear hg hv hgc hgl HNU)
  go_wp2
  go_loopw [14] (fun i wr=>w9.grownBy wr none∧(i = .int .i64 0∨i = .int .i64 1)) (fun i _=>1-(intOf i).toNat)
  case atStart=>exact⟨grown_refl _,Or.inl rfl⟩
  case round=>
   obtain⟨hg,rfl|rfl⟩:=hrel
   ·have hcell:wr.cell? ⟨g,0,none⟩=some (.int .i64 8):=hg.cell HGC.out (by simp)
    have HGR:=Lib.hid hg
    have HGT:=Lib.hid (HGE.out wr (grown_trans HG9.out hg))
    clear hg
    go_upto_region 17 with (go_at_call 21;refine HGT.out.mono ?_;rintro e w10 ⟨hg,p10,c10,rfl,hnr⟩;have HR10:=Lib.hid hg;have HG10:=Lib.hid (grown_trans HGR.out hg);have hc10:=conv_raw (raw_of_row hnr);have hcell10:w10.cell? ⟨g,0,none⟩=some (.int .i64 8):=hg.cell hcell (by simp);clear hg hnr HGT)
    have hcva:=conv_raw ((HA.out.grown HG8.out (by simp)).grown (grown_trans HG9.out HG10.out) (by simp))
    have hcvb:=conv_raw ((HB.out.grown HG8.out (by simp)).grown (grown_trans HG9.out HG10.out) (by simp))
    have hself:∀z:ByteArray,(z.toList == z.toList)=true:=fun z=>by simp
    clear hcell
    go_wp2
    exact⟨⟨HG10.out,Or.inr rfl⟩,by simp[intOf]⟩
   ·have HGR:=Lib.hid hg
    clear hg
    go_wp2_with (go_at_call 17;refine(HW.out _).mono ?_;rintro e w10 ⟨rfl,hg⟩;have HG10:=Lib.hid hg;clear hg)
    go_ret
    exact⟨rfl,grown_trans HG8.out (grown_trans HG9.out (grown_trans HGR.out HG10.out))⟩
end Go.Proofs.YtbcbhlfjgobejaaGreat
namespace Go.Sf
open Go.ChangeShapes Go.WideShapes Go.ChangeAt Go.RowKit
variable {P : Program} {H : Type} {enc : TypeId × Value → H}
theorem post_of_grown {f:Func} {s:ChangeSpec} {apart fresh handsOn again:Bool} {W W':World} {args:Array Value} {v:Value} {ds gs:List (DataW H)} {before pa pv:List MemPlace}
  (hW:DataW.Whole enc P f.params.toList s.vars apart W args.toList ds gs before)
  (hres:∀(b:Nat) (sp:Nat→Bool) (hd:Bool),DataW.TrodAll enc P W' b sp hd f.resultTypes.toList (v.resultList f.resultTypes.size) (s.fn H (ds++gs)).results [])
  (hargs:∀sp:Nat→Bool,(∀p∈before,sp p.block=true)→DataW.TrodAll enc P W' 0 sp true f.params.toList args.toList (s.fn H (ds++gs)).args pa)
  (hvars:∀sp:Nat→Bool,(∀p∈before,sp p.block=true)→DataW.TrodVars enc P W' sp s.vars (s.fn H (ds++gs)).vars pv)
  (hps:before=pa++pv) (hg:W.grownBy W' none)
  (hok:∀(j:Nat) (t:TypeId) (r:Value),f.resultTypes[j]? = some t→(v.resultList f.resultTypes.size)[j]? = some r→Value.okWide P W' .any 0 t r) :
  s.post enc P f apart fresh handsOn again W args v W':=by
 have hold:∀p∈before,(fun b=>decide (b<W.heap.size)) p.block=true:=fun p hp=>by simpa using hW.lt p hp
 have hlt:∀p∈before,p.block<W.heap.size:=fun p hp=>hW.lt p hp
 refine⟨ds,gs,before,[],pa,pv,hW,hres _ _ _,hargs _ hold,hvars _ hold,⟨hg.os,hg.output,fun i hi=>by rw[hg.block i hi (by simp)];exact(World.keptBut_refl W (fun p=>p∈before∧(p∈[]∨p∈pa∨p∈pv))).2.2 i hi⟩,fun _=>?_⟩
 obtain⟨_,_,_,_,_,hz,hn⟩:=hW
 refine⟨hok,_,_,([]++pa)++pv,⟨[]++pa,pv,trodAll_append (hargs _ (fun _ _=>rfl)) (hres _ _ _),hvars _ (fun _ _=>rfl),rfl,?_,?_⟩,?_⟩
 ·intro b off hp
  have hp':MemPlace.cell b off∈before:=by rw[hps];simpa using hp
  rw[World.frozen?_of_block (a:=⟨b,off,none⟩) (hg.block b (hlt _ hp') (by simp))]
  exact hz b off hp'
 ·intro ha
  have:=hn ha
  rw[hps] at this
  simpa using this
 ·intro p hp _
  rw[hps]
  simpa using hp
end Go.Sf
namespace Go.Proofs.YtbcbhlfjgobejaaGreat
open Go.ChangeShapes Go.WideShapes Go.ChangeAt Go.RowKit Go.Deep Go.Sf Go.Joins
section
variable {H : Type} {enc : TypeId × Value → H} {P : Program} {w : World} {base : Nat} {spare : Nat → Bool} {held : Bool}
end
section
variable {H : Type} {enc : TypeId × Value → H} {P : Program} {w w' : World} {base : Nat} {spare : Nat → Bool} {held : Bool}
theorem same_grown (hg:w.grownBy w' none) {p:MemPlace} (hp:p.block<w.heap.size):w.sameAt w' p:=by
 cases p with
 | cell b off=>exact World.cell?_of_block (a:=⟨b,off,none⟩) (hg.block b hp (by simp))
 | map b=>exact hg.block b hp (by simp)
theorem all_carry (hg:w.grownBy w' none):∀{ts:List TypeId} {vs:List Value} {ds:List (DataW H)} {ps:List MemPlace},DataW.TrodAll enc P w base spare held ts vs ds ps→(∀p∈ps,p.block<w.heap.size)→DataW.TrodAll enc P w' base spare held ts vs ds ps
 | [],[],[],_,h,_=>h
 | _ :: _,_ :: _,_ :: _,_,⟨p,q,⟨n,h1⟩,h2,e⟩,hs=>⟨p,q,⟨n,DataW.trod_carry n _ _ _ h1 (fun x hx=>same_grown hg (hs x (by rw[e];exact List.mem_append_left _ hx)))⟩,all_carry hg h2 (fun x hx=>hs x (by rw[e];exact List.mem_append_right _ hx)),e⟩
end
theorem kids:Kids Tryz.prog (·< Tryz.prog.types.size):=kids_rows (by kernel_rfl) (by kernel_rfl)
theorem full:∀t e,t<Tryz.prog.types.size→Tryz.prog.underlying t=some (.slice e)→0<Tryz.prog.cellsOf e:=slices_full_of Tryz.prog (by kernel_rfl)
set_option maxRecDepth 100000 in
theorem bytes_of {H:Type} {enc:TypeId × Value→H} {W:World} {base:Nat} {v:Value} {d:DataW H} {p:List MemPlace} (hval:Value.okWide Tryz.prog W .any base 32 v) (h:DataW.Trod enc Tryz.prog W 0 (fun _=>true) true 32 v d p) :
  ∃l q cap,v = .slice q l.length cap∧RawRow W v l∧BL l∧l.length≤9223372036854775807:=by
 obtain⟨a1,len,cap,rfl⟩:=okWide_slice Tryz.underlying32 hval
 obtain⟨fuel,hf⟩:=h
 rcases open_ints Tryz.underlying32 Tryz.underlying5 (by kernel_rfl) hf with ⟨hcs,_⟩|⟨a,len',cap',zs,hcs,_,hl,hm,hz,_,hcell,hwz⟩
 ·simp[Value.cells] at hcs
  obtain⟨rfl,rfl,rfl⟩:=hcs
  exact⟨[],none,0,rfl,⟨none,0,rfl,Or.inl rfl⟩,fun b hb=>by simp at hb,by simp⟩
 ·simp[Value.cells] at hcs
  obtain⟨rfl,rfl,rfl⟩:=hcs
  simp only[if_true] at hz
  unfold maxLen at hm
  have hlen:(zs.take len).length=len:=by rw[List.length_take];omega
  refine⟨zs.take len,some a,cap,by rw[hlen],⟨some a,cap,by rw[hlen],?_⟩,fun b hb=>?_,by rw[hlen];omega⟩
  ·rcases Nat.eq_zero_or_pos len with h0|h0
   ·left;subst h0;rfl
   ·refine Or.inr ⟨a,rfl,fun j u hu=>?_⟩
    have hj:j<len:=by
     have:=(List.getElem?_eq_some_iff.1 hu).1
     simp only[bytesV,List.length_map,hlen] at this
     exact this
    rw[hcell j (by omega),←hu]
    have hjz:j<zs.length:=by omega
    simp[bytesV,hj,List.getD,List.getElem?_take,List.getElem?_eq_getElem hjz]
  ·have:=hwz b (List.mem_of_mem_take hb)
   have h2:0≤b∧b≤255:=by simpa[Lit.wf,IntKind.min,IntKind.max,IntKind.signed,IntKind.bits] using this
   omega
end Go.Proofs.YtbcbhlfjgobejaaGreat
