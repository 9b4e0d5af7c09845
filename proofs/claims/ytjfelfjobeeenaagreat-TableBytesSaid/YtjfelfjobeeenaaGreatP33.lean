/- The writer's Word, bit, id; numbers of any sign: the walks. Conditions: a writer in memory, not too many bytes. Bytes' closures: the walks. Conditions: a writer in memory, not too many bytes. Bytes' closure for what is pending; nodes: the walks. Conditions: a writer in memory, not too many bytes. -/
import Derived.Test.YtjfelfjobeeenaaGreatP32
import Derived.Test.YtjfelfjobeeenaaGreatP11
import Derived.Deep.DeepCutAuto
import Derived.Deep.RegionLaw
import Derived.StillTailTactics
import Derived.Test.YtjfelfjobeeenaaGreatP10
import Derived.Deep.CutBlock
import Derived.Test.YtjfelfjobeeenaaGreatP20
namespace Go.Proofs.YtjfelfjobeeenaaGreat
set_option linter.unusedVariables false
set_option linter.unusedSimpArgs false
open Go.RowKit Go.Sf
@[go_sem] theorem as32_8 (v:Value) (w:World):(Instr.typeAssert (.iface 224 v) 20 5 true).run Tryz.prog w = .ok (.tuple #[.int .u8 0,.bool false]) w:=by kernel_rfl
@[go_sem] theorem as32_16 (v:Value) (w:World):(Instr.typeAssert (.iface 224 v) 20 99 true).run Tryz.prog w = .ok (.tuple #[.int .u16 0,.bool false]) w:=by kernel_rfl
@[go_sem] theorem as32_32 (v:Value) (w:World):(Instr.typeAssert (.iface 224 v) 20 224 true).run Tryz.prog w = .ok (.tuple #[v,.bool true]) w:=by kernel_rfl
set_option maxRecDepth 100000 in
theorem size32 (n:Int) (W:World):Calls Tryz.prog 212 #[.int .u32 n] W fun e w'=>e = .returned (.int .i64 4)∧w'=W:=by
 go_enter Tryz.func212,Tryz.ntmps212
 go_wp2
 go_ret
 exact⟨rfl,rfl⟩
set_option maxHeartbeats 4000000 in
set_option maxRecDepth 100000 in
theorem put32 {W:World} {wb base:Nat} {v:Value} {l:List Int} (h:WBox W wb base v l) (hb:base≤wb) (hl:l.length≤100000000) (N:Nat) (hN:N<256 ^ 4):Calls Tryz.prog 182 #[.pointer (some ⟨wb,0,none⟩),.int .u32 N] W fun e w'=>e = .returned (.tuple #[])∧∃v',WBox w' wb base v' (l++be 4 N)∧Turn (fun k=>k=wb∨v.ownBlock=some k) W w'∧(v.ownBlock=v'.ownBlock∨∀g,v'.ownBlock=some g→W.heap.size≤g):=by
 obtain⟨i0,hi,hz0,hz1,hz2⟩:=info_parts infoU8
 obtain⟨p,cap,rfl⟩:=slice_form h.row
 have c0:W.cell? ⟨wb,0,none⟩=some (.slice p l.length cap):=by simp[World.cell?,h.box]
 have f0:W.frozen? ⟨wb,0,none⟩=false:=by simp[World.frozen?,h.box]
 have hwb:wb<W.heap.size:=(Array.getElem?_eq_some_iff.1 h.box).1
 have H:=Lib.hid h
 clear h
 go_enter Tryz.func182,Tryz.ntmps182
 go_upto_region 2 with fail
 go_cut [] (fun wx=>∃g cap2,PRow wx wb base g cap2 (l.length+4) (bytesV l++List.replicate 4 (.int .u8 0))∧Turn (fun q=>q=wb∨Value.ownBlock (.slice p l.length cap)=some q) W wx∧(Value.ownBlock (.slice p l.length cap)=some g∨W.heap.size≤g))
 case first=>
  go_region_law (first
   | (go_simp;go_at_call 212;refine(size32 _ _).mono ?_;rintro e w3 ⟨rfl,rfl⟩)
   | (refine step_zeros rfl _ _ 25 3 5 rfl i0 .i64 .i64 Tryz.underlying25 Tryz.underlying3 hi hz0 hz1 hz2 base _ l.length (bytesV l) rfl H.out.row 4 rfl (by omega) (by omega) (by show base≤W.heap.size;omega) ?_;intro g cap2 w1 ho hg hat;have hx1:w1.heap[wb]? = some (.cells #[.slice p l.length cap] 96 (0,0)):=(hg.block wb hwb (fun e=>H.out.ne e.symm)).trans H.out.box;have d0:w1.cell? ⟨wb,0,none⟩=some (.slice p l.length cap):=(by simp[World.cell?,hx1]);have y0:w1.frozen? ⟨wb,0,none⟩=false:=(by simp[World.frozen?,hx1]);have HO:=Lib.hid ho;have HGR:=Lib.hid hg;have HAT:=Lib.hid hat;have HX:=Lib.hid hx1;clear ho hg hat hx1))
  all_goals
   go_wp2_with fail
   go_meet
   exact⟨g,cap2,mk_prow hwb H.out.ne HX.out HO.out HGR.out HAT.out⟩
 case rest=>
  obtain⟨g,cap2,hp,ht,hat⟩:=hcut
  have HTN:=Lib.hid ht
  have HAT:=Lib.hid hat
  have d0:=hp.c0
  clear ht hat c0 f0
  have hlen:l.length+4≤1000000000:=by omega
  go_wp2
  go_loopw [1,5] (fun nv i wr=>∃(m nc:Nat) (tail:List Int),m≤4∧nv = .int .u32 nc∧nc<256 ^ 4∧i = .int .i64 ((l.length:Int)+m-1)∧be 4 N=be m nc++tail∧tail.length+m=4∧PRow wr wb base g cap2 (l.length+4) (bytesV l++List.replicate m (.int .u8 0)++bytesV tail)∧Turn (fun q=>q=wb∨Value.ownBlock (.slice p l.length cap)=some q∨W.heap.size≤q) W wr) (fun _ i _=>(intOf i+1-(l.length:Int)).toNat)
  case atStart=>exact⟨4,N,[],by omega,rfl,hN,by congr 1 <;> omega,by simp,by simp,by simpa[bytesV] using hp,HTN.out.mono (fun q h=>by rcases h with h|h;exact Or.inl h;exact Or.inr (Or.inl h))⟩
  case round=>
   obtain⟨m,nc,tail,hm,rfl,hnc,rfl,hbe,htl,hp,ht⟩:=hrel
   have e0:=hp.c0
   have HP:=Lib.hid hp
   have HT:=Lib.hid ht
   clear hp ht d0
   cases m with
   | zero=>
    go_wp2
    first|go_end0|refine bodyPost_ret (results_none rfl _ _ _) rfl ?_
    have hbt:be 4 N=tail:=by simpa[be] using hbe
    have hln:(l++be 4 N).length=l.length+4:=by simp[be_len]
    refine⟨rfl,_,⟨HP.out.box,?_⟩,HT.out.old,?_⟩
    ·rw[hln,hbt]
     have:=HP.out.row
     simpa[bytesV] using this
    ·rcases HAT.out with h|h
     ·exact Or.inl h
     ·exact Or.inr (fun q hq=>by simp[Value.ownBlock] at hq;omega)
   | succ m=>
    have hsel:=HP.out.row
    obtain⟨cell0,hz⟩:∃u,wr.cell? ⟨g,l.length+m,none⟩=some u:=by
     rcases hsel.2 with ⟨e1,_⟩|⟨b,c,cur,e1,_,hb,r1,r2,r3,r4⟩
     ·cases e1
     ·cases e1
      refine⟨cur[l.length+m]'(by omega),?_⟩
      simp[World.cell?,hb]
    have hfz:wr.frozen? ⟨g,l.length+m,none⟩=false:=by
     rcases hsel.2 with ⟨e1,_⟩|⟨b,c,cur,e1,_,hb,r1,r2,r3,r4⟩
     ·cases e1
     ·cases e1
      simp[World.frozen?,hb]
    clear hsel
    go_wp2
    go_roundw
    case rel=>
     refine⟨m,nc / 256,((nc%256:Nat):Int) :: tail,by omega,by simp,Nat.lt_of_le_of_lt (Nat.div_le_self _ _) hnc,by congr 1;omega,by rw[hbe,be_eq];simp,by simp only[List.length_cons];omega,?_,HT.out.set _ (by rcases HAT.out with h|h;exact Or.inr (Or.inl h);exact Or.inr (Or.inr h))⟩
     have hnm:((nc%256:Nat):Int)=(nc:Int)%256:=rfl
     rw[hnm]
     exact HP.out.step (by omega) _
    case measure=>simp[intOf];omega
section
variable {W : World} {wb base : Nat} {v : Value} {l : List Int}
set_option maxRecDepth 100000 in
theorem word_any (h:WBox W wb base v l) (hb:base≤wb) (hl:l.length≤100000000) (N:Nat) (hN:N<256 ^ 4):Calls Tryz.prog 152 #[.pointer (some ⟨wb,0,none⟩),.int .u32 N] W fun e w'=>Puts W wb base v (l++be 4 N) e w':=by
 have H:=Lib.hid h
 clear h
 go_enter Tryz.func152,Tryz.ntmps152
 go_wp2_with (go_at_call 182;refine(put32 H.out hb hl N hN).mono ?_;rintro e w' ⟨rfl,hq⟩;have HQ:=Lib.hid hq;clear hq)
 first|go_end0|refine bodyPost_ret (results_none rfl _ _ _) rfl ?_
 exact⟨rfl,HQ.out⟩
end
def e2 (x:Int):List Int:=be 2 (x%65536).toNat
def e4 (x:Int):List Int:=be 4 (x%4294967296).toNat
def e8 (x:Int):List Int:=be 8 (x%18446744073709551616).toNat
def eBit (b:Bool):List Int:=be 1 (if b then 1 else 0)
def eTxt (s:ByteArray):List Int:=be 1 s.size++strB s
def eID (i:ID):List Int:=eTxt i.key++e8 i.ver
theorem grown_turn {bs:Nat→Prop} {a b c:World} (h:a.grownBy b none) (g:Turn bs b c):Turn bs a c:=
 ⟨g.os.trans h.os,g.tape.trans h.tape,g.output.trans h.output,Nat.le_trans h.size g.size,fun k hk hn=>(g.block k (Nat.lt_of_lt_of_le hk h.size) hn).trans (h.block k hk (by simp))⟩
structure WS (own:Nat→Prop) (wb:Nat) (l:List Int) (w:World):Prop where
 ex:∃v,WBox w wb wb v l∧∀g,v.ownBlock=some g→¬own g
 nw:¬own wb
 lt:∀g,own g→g<w.heap.size
def WPost (own:Nat→Prop) (wb:Nat) (l:List Int) (w:World) (e:Ending) (w':World):Prop:=e = .returned (.tuple #[])∧WS own wb l w'∧Turn (fun k=>¬own k) w w'
section
variable {own : Nat → Prop} {w w' : World} {wb : Nat} {l l' : List Int}
theorem WS.wlt (h:WS own wb l w):wb<w.heap.size:=by
 obtain⟨v,h1,_⟩:=h.ex
 exact(Array.getElem?_eq_some_iff.1 h1.box).1
theorem WS.keep (h:WS own wb l w) (hg:w.grownBy w' none):WS own wb l w':=by
 obtain⟨v,h1,h2⟩:=h.ex
 exact⟨⟨v,h1.kept hg,h2⟩,h.nw,fun g hg2=>Nat.lt_of_lt_of_le (h.lt g hg2) hg.size⟩
theorem ws_step {v:Value} (h1:WBox w wb wb v l) (h2:∀g,v.ownBlock=some g→¬own g) (h:WS own wb l w) {e:Ending} (hp:Puts w wb wb v l' e w'):WPost own wb l' w e w':=by
 obtain⟨rfl,v',hw,ht,hv⟩:=hp
 refine⟨rfl,⟨⟨v',hw,fun g hg ho=>?_⟩,h.nw,fun g ho=>Nat.lt_of_lt_of_le (h.lt g ho) ht.size⟩,ht.mono fun k hk ho=>?_⟩
 ·rcases hv with e|e
  ·exact h2 g (e.trans hg) ho
  ·have:=e g hg;have:=h.lt g ho;omega
 ·rcases hk with rfl|hk
  ·exact h.nw ho
  ·exact h2 k hk ho
theorem WS.fresh (h:WS own wb l w) (hg:w.grownBy w' none) (g:Nat) (hge:w.heap.size≤g) (hlt:g<w'.heap.size):WS (fun k=>own k∨k=g) wb l w':=by
 obtain⟨v,h1,h2⟩:=h.ex
 refine⟨⟨v,h1.kept hg,fun k hk ho=>?_⟩,fun e=>e.elim h.nw (fun e=>by have:=h.wlt;omega),fun k hk=>hk.elim (fun e=>Nat.lt_of_lt_of_le (h.lt k e) hg.size) (fun e=>by omega)⟩
 rcases ho with ho|ho
 ·exact h2 k hk ho
 ·have:k<w.heap.size:=by
   rcases h1.row.2 with ⟨e,_⟩|⟨b,c,cur,e,_,hb,_⟩
   ·rw[e] at hk;simp[Value.ownBlock] at hk
   ·rw[e] at hk;simp[Value.ownBlock] at hk;subst hk;exact(Array.getElem?_eq_some_iff.1 hb).1
  omega
theorem WS.less (h:WS own wb l w) {own':Nat→Prop} (hs:∀k,own' k→own k):WS own' wb l w:=by
 obtain⟨v,h1,h2⟩:=h.ex
 exact⟨⟨v,h1,fun g hg ho=>h2 g hg (hs g ho)⟩,fun e=>h.nw (hs _ e),fun g hg=>h.lt g (hs g hg)⟩
theorem WS.shortZ (h:WS own wb l w) (hl:l.length≤100000) (x:Int):Calls Tryz.prog 50 #[.pointer (some ⟨wb,0,none⟩),.int .u16 (x%65536)] w (WPost own wb (l++e2 x) w):=by
 obtain⟨v,h1,h2⟩:=h.ex
 have hx:(((x%65536).toNat:Nat):Int)=x%65536:=by omega
 have hh:=short_any h1 (Nat.le_refl _) (by omega) (x%65536).toNat (by omega)
 rw[hx] at hh
 exact hh.mono fun e w' hp=>ws_step h1 h2 h hp
theorem WS.wordZ (h:WS own wb l w) (hl:l.length≤100000) (x:Int):Calls Tryz.prog 152 #[.pointer (some ⟨wb,0,none⟩),.int .u32 (x%4294967296)] w (WPost own wb (l++e4 x) w):=by
 obtain⟨v,h1,h2⟩:=h.ex
 have hx:(((x%4294967296).toNat:Nat):Int)=x%4294967296:=by omega
 have hh:=word_any h1 (Nat.le_refl _) (by omega) (x%4294967296).toNat (by omega)
 rw[hx] at hh
 exact hh.mono fun e w' hp=>ws_step h1 h2 h hp
theorem WS.longZ (h:WS own wb l w) (hl:l.length≤100000) (x:Int):Calls Tryz.prog 51 #[.pointer (some ⟨wb,0,none⟩),.int .u64 (x%18446744073709551616)] w (WPost own wb (l++e8 x) w):=by
 obtain⟨v,h1,h2⟩:=h.ex
 have hx:(((x%18446744073709551616).toNat:Nat):Int)=x%18446744073709551616:=by omega
 have hh:=long_any h1 (Nat.le_refl _) (by omega) (x%18446744073709551616).toNat (by omega)
 rw[hx] at hh
 exact hh.mono fun e w' hp=>ws_step h1 h2 h hp
theorem WS.byteZ (h:WS own wb l w) (hl:l.length≤100000) (x:Nat) (hx:x<256):Calls Tryz.prog 49 #[.pointer (some ⟨wb,0,none⟩),.int .u8 x] w (WPost own wb (l++be 1 x) w):=by
 obtain⟨v,h1,h2⟩:=h.ex
 exact(byte_any h1 (Nat.le_refl _) (by omega) x hx).mono fun e w' hp=>ws_step h1 h2 h hp
theorem WS.textZ (h:WS own wb l w) (hl:l.length≤100000) (s:ByteArray) (hs:s.size≤1000000):Calls Tryz.prog 52 #[.pointer (some ⟨wb,0,none⟩),.string s] w (WPost own wb (l++eTxt s) w):=by
 obtain⟨v,h1,h2⟩:=h.ex
 refine(text_any s h1 (Nat.le_refl _) (by omega)).mono fun e w' hp=>?_
 rw[List.append_assoc] at hp
 exact ws_step h1 h2 h hp
set_option maxRecDepth 100000 in
theorem WS.bitZ (h:WS own wb l w) (hl:l.length≤100000) (b:Bool):Calls Tryz.prog 87 #[.pointer (some ⟨wb,0,none⟩),.bool b] w (WPost own wb (l++eBit b) w):=by
 have H:=Lib.hid h
 have hwl:=h.wlt
 clear h
 cases b
 ·have H0:Hid (Calls Tryz.prog 49 #[.pointer (some ⟨wb,0,none⟩),.int .u8 0] w (WPost own wb (l++eBit false) w)):=(show Calls _ _ _ _ _ from H.out.byteZ hl 0 (by omega))
  go_enter Tryz.func87,Tryz.ntmps87
  go_wp2_with (go_at_call 49;refine H0.out.mono ?_;rintro e w' ⟨rfl,hq⟩;have HQ:=Lib.hid hq;clear hq)
  first|go_end0|refine bodyPost_ret (results_none rfl _ _ _) rfl ?_
  exact⟨rfl,HQ.out⟩
 ·have H0:Hid (Calls Tryz.prog 49 #[.pointer (some ⟨wb,0,none⟩),.int .u8 1] w (WPost own wb (l++eBit true) w)):=(show Calls _ _ _ _ _ from H.out.byteZ hl 1 (by omega))
  go_enter Tryz.func87,Tryz.ntmps87
  go_wp2_with (go_at_call 49;refine H0.out.mono ?_;rintro e w' ⟨rfl,hq⟩;have HQ:=Lib.hid hq;clear hq)
  first|go_end0|refine bodyPost_ret (results_none rfl _ _ _) rfl ?_
  exact⟨rfl,HQ.out⟩
theorem eID_len (i:ID):(eID i).length=i.key.size+9:=by have h1:=strB_len i.key;simp only[eID,eTxt,e8,be_len,List.length_append,h1];omega
set_option maxHeartbeats 2000000 in
set_option maxRecDepth 100000 in
theorem WS.idZ (h:WS own wb l w) (i:ID) (hl:l.length+i.key.size≤90000):Calls Tryz.prog 91 #[.pointer (some ⟨wb,0,none⟩),.agg #[.string i.key,.int .i64 i.ver]] w (WPost own wb (l++eID i) w):=by
 have hwl:=h.wlt
 have HL:Hid (l.length+i.key.size≤90000):=(show _≤_ from hl)
 have HG:=Lib.hid (World.grownBy_alloc w (.cells #[.string i.key,.int .i64 i.ver] 54) none)
 have HB:=Lib.hid (heap_alloc_new w (.cells #[.string i.key,.int .i64 i.ver] 54))
 have H:=Lib.hid (h.fresh HG.out w.heap.size (Nat.le_refl _) (by simp))
 have HLN:Hid ((l++eTxt i.key).length≤100000):=(show _≤_ from by have h1:=strB_len i.key;simp only[eTxt,be_len,List.length_append,h1];omega)
 have HE:Hid (l++eTxt i.key++e8 i.ver=l++eID i):=(show _=_ from by simp[eID,List.append_assoc])
 have HSZ:Hid (w.heap.size<(w.alloc (.cells #[.string i.key,.int .i64 i.ver] 54)).heap.size):=(show _<_ from by simp)
 clear h hl
 go_enter Tryz.func91,Tryz.ntmps91
 go_upto_region 2 with (go_at_call 52;refine(H.out.textZ (by have:=HL.out;omega) i.key (by have:=HL.out;omega)).mono ?_;rintro e w1 ⟨rfl,hq,ht⟩;have HQ:=Lib.hid hq;have HT:=Lib.hid ht;clear hq ht)
 have B1:=(HT.out.block w.heap.size HSZ.out (fun e=>e (Or.inr rfl))).trans HB.out
 have b1:w1.cell? ⟨w.heap.size,1,none⟩=some (.int .i64 i.ver):=(cell_block B1 1).trans rfl
 have lb:=cell_lt b1
 have hwl1:=HQ.out.wlt
 clear B1
 have HLG:Hid (∀w2:World,w1.grownBy w2 none→Calls Tryz.prog 51 #[.pointer (some ⟨wb,0,none⟩),.int .u64 (i.ver%18446744073709551616)] w2 (WPost (fun k=>own k∨k=w.heap.size) wb (l++eID i) w2)):=(show ∀_,_→Calls _ _ _ _ _ from fun w2 hg=>by have:=(HQ.out.keep hg).longZ HLN.out i.ver;rw[HE.out] at this;exact this)
 go_still_tail 6,(by kernel_rfl)
 go_wp2_with (go_at_call 51;refine(HLG.out _ (grown_drew (grown_refl _))).mono ?_;rintro e w2 ⟨rfl,hq,ht⟩;have HQ2:=Lib.hid hq;have HT2:=Lib.hid ht;clear hq ht)
 first|go_end0|refine bodyPost_ret (results_none rfl _ _ _) rfl ?_
 refine⟨rfl,HQ2.out.less fun k hk=>Or.inl hk,?_⟩
 refine(grown_turn HG.out ((HT.out.trans (grown_turn (grown_drew (grown_refl _)) HT2.out)).mono fun k hk ho=>hk (Or.inl ho)))
end
def callB (p:Int × CallT):List Int:=e2 p.1++e8 p.2.req++e8 p.2.ver++eBit p.2.done++e2 p.2.code
def valB (p:ByteArray × Val):List Int:=eID ⟨p.1,p.2.ver⟩++eBit p.2.dead
def pendB (p:ID × Pend):List Int:=eID p.1++e2 p.2.client++e8 p.2.req
theorem e2_len (x:Int):(e2 x).length=2:=be_len _ _
theorem e4_len (x:Int):(e4 x).length=4:=be_len _ _
theorem e8_len (x:Int):(e8 x).length=8:=be_len _ _
theorem eBit_len (b:Bool):(eBit b).length=1:=be_len _ _
theorem callB_len (p:Int × CallT):(callB p).length=21:=by simp[callB,e2_len,e8_len,eBit_len]
theorem valB_len (p:ByteArray × Val):(valB p).length=p.1.size+10:=by simp[valB,eID_len,eBit_len]
theorem pendB_len (p:ID × Pend):(pendB p).length=p.1.key.size+19:=by simp[pendB,eID_len,e2_len,e8_len]
section
variable {own : Nat → Prop} {w wa wz : World} {wb g : Nat} {l : List Int}
theorem ws_end (hg:w.grownBy wa none) (hq:WS (fun k=>own k∨k=g) wb l wz) (ht:Turn (fun k=>¬(own k∨k=g)) wa wz):WPost own wb l w (.returned (.tuple #[])) wz:=
 ⟨rfl,hq.less fun k hk=>Or.inl hk,grown_turn hg (ht.mono fun k hk ho=>hk (Or.inl ho))⟩
theorem ws_box {o:Obj} (ht:Turn (fun k=>¬(own k∨k=g)) wa wz) (hb:wa.heap[g]? = some o):wz.heap[g]? = some o:=
 (ht.block g (Array.getElem?_eq_some_iff.1 hb).1 (fun e=>e (Or.inr rfl))).trans hb
set_option maxHeartbeats 4000000 in
set_option maxRecDepth 100000 in
theorem by1_any (h:WS own wb l w) (n:Int) (c:CallT) (hl:l.length≤90000):Calls Tryz.prog 86 #[.int .i64 n,.agg #[.int .i64 c.req,.int .i64 c.ver,.bool c.done,.int .i64 c.code],.pointer (some ⟨wb,0,none⟩)] w (WPost own wb (l++callB (n,c)) w):=by
 obtain⟨req,ver,done,code⟩:=c
 simp only
 have HG:=Lib.hid (World.grownBy_alloc w (.cells #[.int .i64 req,.int .i64 ver,.bool done,.int .i64 code] 77) none)
 have HB:=Lib.hid (heap_alloc_new w (.cells #[.int .i64 req,.int .i64 ver,.bool done,.int .i64 code] 77))
 have H:=Lib.hid (h.fresh HG.out w.heap.size (Nat.le_refl _) (by simp))
 have HE:Hid (l++e2 n++e8 req++e8 ver++eBit done++e2 code=l++callB (n,⟨req,ver,done,code⟩)):=(show _=_ from by simp[callB,List.append_assoc])
 have hl1:(l++e2 n).length≤90002:=by rw[List.length_append,e2_len];omega
 have hl2:(l++e2 n++e8 req).length≤90010:=by rw[List.length_append,e8_len];omega
 have hl3:(l++e2 n++e8 req++e8 ver).length≤90018:=by rw[List.length_append,e8_len];omega
 have hl4:(l++e2 n++e8 req++e8 ver++eBit done).length≤90019:=by rw[List.length_append,eBit_len];omega
 have HL:=Lib.hid (And.intro hl (And.intro hl1 (And.intro hl2 (And.intro hl3 hl4))))
 clear h hl hl1 hl2 hl3 hl4
 go_enter Tryz.func86,Tryz.ntmps86
 go_upto_region 1 with fail
 generalize w.alloc (.cells #[.int .i64 req,.int .i64 ver,.bool done,.int .i64 code] 77)=wa at *
 generalize hgb:w.heap.size=gb at *
 clear hgb
 have hwl:=H.out.wlt
 go_upto_region 2 with (go_at_call 50;refine(H.out.shortZ (by have:=HL.out;omega) n).mono ?_;rintro e w1 ⟨rfl,hq,ht⟩;have HQ1:=Lib.hid hq;have HT1:=Lib.hid ht;clear hq ht)
 have hwl:=HQ1.out.wlt
 have b0:w1.cell? ⟨gb,0,none⟩=some (.int .i64 req):=(cell_block (ws_box HT1.out HB.out) 0).trans rfl
 go_upto_region 3 with (go_at_call 51;refine(HQ1.out.longZ (by have:=HL.out;omega) req).mono ?_;rintro e w2 ⟨rfl,hq,ht⟩;have HQ2:=Lib.hid hq;have HT2:=Lib.hid (HT1.out.trans ht);clear hq ht b0)
 have hwl:=HQ2.out.wlt
 have b1:w2.cell? ⟨gb,1,none⟩=some (.int .i64 ver):=(cell_block (ws_box HT2.out HB.out) 1).trans rfl
 go_upto_region 4 with (go_at_call 51;refine(HQ2.out.longZ (by have:=HL.out;omega) ver).mono ?_;rintro e w3 ⟨rfl,hq,ht⟩;have HQ3:=Lib.hid hq;have HT3:=Lib.hid (HT2.out.trans ht);clear hq ht b1)
 have hwl:=HQ3.out.wlt
 have b2:w3.cell? ⟨gb,2,none⟩=some (.bool done):=(cell_block (ws_box HT3.out HB.out) 2).trans rfl
 go_upto_region 5 with (go_at_call 87;refine(HQ3.out.bitZ (by have:=HL.out;omega) done).mono ?_;rintro e w4 ⟨rfl,hq,ht⟩;have HQ4:=Lib.hid hq;have HT4:=Lib.hid (HT3.out.trans ht);clear hq ht b2)
 have hwl:=HQ4.out.wlt
 have b3:w4.cell? ⟨gb,3,none⟩=some (.int .i64 code):=(cell_block (ws_box HT4.out HB.out) 3).trans rfl
 go_wp2_with (go_at_call 50;refine(HQ4.out.shortZ (by have:=HL.out;omega) code).mono ?_;rintro e w5 ⟨rfl,hq,ht⟩;have HQ5:=Lib.hid hq;have HT5:=Lib.hid (HT4.out.trans ht);clear hq ht b3)
 first|go_end0|refine bodyPost_ret (results_none rfl _ _ _) rfl ?_
 rw[←HE.out]
 exact ws_end HG.out HQ5.out HT5.out
set_option maxHeartbeats 4000000 in
set_option maxRecDepth 100000 in
theorem by2_any (h:WS own wb l w) (s:ByteArray) (c:Val) (hl:l.length+s.size≤90000):Calls Tryz.prog 90 #[.string s,.agg #[.int .i64 c.ver,.bool c.dead],.pointer (some ⟨wb,0,none⟩)] w (WPost own wb (l++valB (s,c)) w):=by
 obtain⟨ver,dead⟩:=c
 simp only
 have HG:=Lib.hid (World.grownBy_alloc w (.cells #[.int .i64 ver,.bool dead] 151) none)
 have HB:=Lib.hid (heap_alloc_new w (.cells #[.int .i64 ver,.bool dead] 151))
 have H:=Lib.hid (h.fresh HG.out w.heap.size (Nat.le_refl _) (by simp))
 have HE:Hid (l++eID ⟨s,ver⟩++eBit dead=l++valB (s,⟨ver,dead⟩)):=(show _=_ from by simp[valB,List.append_assoc])
 have hl1:(l++eID ⟨s,ver⟩).length≤90009:=by rw[List.length_append,eID_len];simp only;omega
 have HL:=Lib.hid (And.intro hl hl1)
 clear h hl hl1
 go_enter Tryz.func90,Tryz.ntmps90
 go_upto_region 1 with fail
 generalize w.alloc (.cells #[.int .i64 ver,.bool dead] 151)=wa at *
 generalize hgb:w.heap.size=gb at *
 clear hgb
 have hwl:=H.out.wlt
 have b0:wa.cell? ⟨gb,0,none⟩=some (.int .i64 ver):=(cell_block HB.out 0).trans rfl
 go_upto_region 2 with (go_at_call 91;refine(H.out.idZ ⟨s,ver⟩ HL.out.1).mono ?_;rintro e w1 ⟨rfl,hq,ht⟩;have HQ1:=Lib.hid hq;have HT1:=Lib.hid ht;clear hq ht b0)
 have hwl:=HQ1.out.wlt
 have b1:w1.cell? ⟨gb,1,none⟩=some (.bool dead):=(cell_block (ws_box HT1.out HB.out) 1).trans rfl
 go_wp2_with (go_at_call 87;refine(HQ1.out.bitZ (by have:=HL.out;omega) dead).mono ?_;rintro e w2 ⟨rfl,hq,ht⟩;have HQ2:=Lib.hid hq;have HT2:=Lib.hid (HT1.out.trans ht);clear hq ht b1)
 first|go_end0|refine bodyPost_ret (results_none rfl _ _ _) rfl ?_
 rw[←HE.out]
 exact ws_end HG.out HQ2.out HT2.out
end
open Go.RowKit Go.Sf Go.Shelf Go.Maps
def nsort (l:List Int):List Int:=l.mergeSort fun x y=>decide (x≤y)
def setB (p:ID × NSet):List Int:=eID p.1++e2 p.2.mem.length++(nsort p.2.mem).flatMap e2
theorem nsort_len (l:List Int):(nsort l).length=l.length:=List.length_mergeSort _
theorem flat2_len:∀l:List Int,(l.flatMap e2).length=2*l.length
 | []=>rfl
 | x :: r=>by simp only[List.flatMap_cons,List.length_append,e2_len,flat2_len r,List.length_cons];omega
theorem setB_len (p:ID × NSet):(setB p).length=p.1.key.size+11+2*p.2.mem.length:=by
 unfold setB
 rw[List.length_append,List.length_append,eID_len,e2_len,flat2_len,nsort_len]
theorem flat_take_succ {α:Type} (f:α→List Int) (l:List α) (k:Nat) (hk:k<l.length):(l.take (k+1)).flatMap f=(l.take k).flatMap f++f l[k]:=by
 rw[List.take_succ_eq_append_getElem hk,List.flatMap_append];simp
section
variable {own : Nat → Prop} {w wa wz : World} {wb g : Nat} {l : List Int}
theorem ws_old (ht:Turn (fun k=>¬own k) wa wz) {k:Nat} (hk:k<wa.heap.size) (ho:own k):wz.heap[k]? = wa.heap[k]?:=ht.block k hk (fun e=>e ho)
set_option maxHeartbeats 4000000 in
set_option maxRecDepth 100000 in
theorem by3_any (h:WS own wb l w) (i:ID) (c:Pend) (hl:l.length+i.key.size≤80000):Calls Tryz.prog 93 #[.agg #[.string i.key,.int .i64 i.ver],.agg #[.int .i64 c.client,.int .i64 c.req],.pointer (some ⟨wb,0,none⟩)] w (WPost own wb (l++pendB (i,c)) w):=by
 obtain⟨client,req⟩:=c
 obtain⟨key,ver⟩:=i
 simp only at hl ⊢
 have HG1:=Lib.hid (World.grownBy_alloc w (.cells #[.string key,.int .i64 ver] 54) none)
 have HB1:=Lib.hid (heap_alloc_new w (.cells #[.string key,.int .i64 ver] 54))
 have H1:=Lib.hid (h.fresh HG1.out w.heap.size (Nat.le_refl _) (by simp))
 have hs1:(w.alloc (.cells #[.string key,.int .i64 ver] 54)).heap.size=w.heap.size+1:=by simp
 have HE:Hid (l++eID ⟨key,ver⟩++e2 client++e8 req=l++pendB (⟨key,ver⟩,⟨client,req⟩)):=(show _=_ from by simp[pendB,List.append_assoc])
 have hl1:(l++eID ⟨key,ver⟩).length≤90009:=by rw[List.length_append,eID_len];simp only;omega
 have hl2:(l++eID ⟨key,ver⟩++e2 client).length≤90011:=by rw[List.length_append,e2_len];omega
 have HL:=Lib.hid (And.intro hl (And.intro hl1 hl2))
 clear h hl hl1 hl2
 go_enter Tryz.func93,Tryz.ntmps93
 go_upto_region 1 with fail
 generalize w.alloc (.cells #[.string key,.int .i64 ver] 54)=wa at *
 have HG2:=Lib.hid (World.grownBy_alloc wa (.cells #[.int .i64 client,.int .i64 req] 130) none)
 have HB2:=Lib.hid (heap_alloc_new wa (.cells #[.int .i64 client,.int .i64 req] 130))
 have H2:=Lib.hid (H1.out.fresh HG2.out wa.heap.size (Nat.le_refl _) (by simp))
 have HB3:=Lib.hid ((HG2.out.block w.heap.size (by omega) (by simp)).trans HB1.out)
 rw[hs1] at HB2 H2
 generalize wa.alloc (.cells #[.int .i64 client,.int .i64 req] 130)=wy at *
 generalize hgb:w.heap.size=gb at *
 clear hgb
 have hwl:=H2.out.wlt
 have b0:wy.cell? ⟨gb,0,none⟩=some (.string key):=(cell_block HB3.out 0).trans rfl
 have b1:wy.cell? ⟨gb,1,none⟩=some (.int .i64 ver):=(cell_block HB3.out 1).trans rfl
 go_upto_region 2 with (go_at_call 91;refine(H2.out.idZ ⟨key,ver⟩ (by have:=HL.out;simp only;omega)).mono ?_;rintro e w1 ⟨rfl,hq,ht⟩;have HQ1:=Lib.hid hq;have HT1:=Lib.hid ht;clear hq ht b0 b1)
 have hwl:=HQ1.out.wlt
 have b2:w1.cell? ⟨gb+1,0,none⟩=some (.int .i64 client):=(cell_block (ws_box HT1.out HB2.out) 0).trans rfl
 go_upto_region 3 with (go_at_call 50;refine(HQ1.out.shortZ (by have:=HL.out;omega) client).mono ?_;rintro e w2 ⟨rfl,hq,ht⟩;have HQ2:=Lib.hid hq;have HT2:=Lib.hid (HT1.out.trans ht);clear hq ht b2)
 have hwl:=HQ2.out.wlt
 have b3:w2.cell? ⟨gb+1,1,none⟩=some (.int .i64 req):=(cell_block (ws_box HT2.out HB2.out) 1).trans rfl
 go_wp2_with (go_at_call 51;refine(HQ2.out.longZ (by have:=HL.out;omega) req).mono ?_;rintro e w3 ⟨rfl,hq,ht⟩;have HQ3:=Lib.hid hq;have HT3:=Lib.hid (HT2.out.trans ht);clear hq ht b3)
 first|go_end0|refine bodyPost_ret (results_none rfl _ _ _) rfl ?_
 rw[←HE.out]
 have h2:=ws_end HG2.out HQ3.out HT3.out
 exact ws_end HG1.out h2.2.1 h2.2.2
set_option maxHeartbeats 4000000 in
set_option maxRecDepth 100000 in
theorem nodes_any (h:WS own wb l w) (i:ID) (s:NSet) (hs:SetT w s) (ho:own s.blk) (hf:Fits s.mem) (hl:l.length+i.key.size+2*s.mem.length≤80000):Calls Tryz.prog 95 #[.pointer (some ⟨wb,0,none⟩),.agg #[.string i.key,.int .i64 i.ver],.map (some s.blk)] w (WPost own wb (l++setB (i,s)) w):=by
 obtain⟨key,ver⟩:=i
 simp only at hl ⊢
 have HG1:=Lib.hid (World.grownBy_alloc w (.cells #[.string key,.int .i64 ver] 54) none)
 have HB1:=Lib.hid (heap_alloc_new w (.cells #[.string key,.int .i64 ver] 54))
 have H1:=Lib.hid (h.fresh HG1.out w.heap.size (Nat.le_refl _) (by simp))
 have HS1:Hid (SetT (w.alloc (.cells #[.string key,.int .i64 ver] 54)) s):=(show SetT _ _ from MapT.kept hs HG1.out (by simp))
 have HO:=Lib.hid ho
 have HF:=Lib.hid hf
 have HE:Hid (l++eID ⟨key,ver⟩++e2 s.mem.length++(nsort s.mem).flatMap e2=l++setB (⟨key,ver⟩,s)):=(show _=_ from by simp[setB,List.append_assoc])
 have hl1:(l++eID ⟨key,ver⟩).length≤90009:=by rw[List.length_append,eID_len];simp only;omega
 have hl2:(l++eID ⟨key,ver⟩++e2 s.mem.length).length+2*s.mem.length≤90011:=by rw[List.length_append,List.length_append,eID_len,e2_len];simp only;omega
 have HL:=Lib.hid (And.intro hl (And.intro hl1 hl2))
 clear h hl hl1 hl2 hs ho hf
 go_enter Tryz.func95,Tryz.ntmps95
 go_upto_region 1 with fail
 generalize w.alloc (.cells #[.string key,.int .i64 ver] 54)=wa at *
 generalize hgb:w.heap.size=gb at *
 have hwl:=H1.out.wlt
 have b0:wa.cell? ⟨gb,0,none⟩=some (.string key):=(cell_block HB1.out 0).trans rfl
 have b1:wa.cell? ⟨gb,1,none⟩=some (.int .i64 ver):=(cell_block HB1.out 1).trans rfl
 go_upto_region 2 with (go_at_call 91;refine(H1.out.idZ ⟨key,ver⟩ (by have:=HL.out;simp only;omega)).mono ?_;rintro e w1 ⟨rfl,hq,ht⟩;have HQ1:=Lib.hid hq;have HT1:=Lib.hid ht;clear hq ht b0 b1)
 have HS2:Hid (SetT w1 s):=(show SetT _ _ from MapT.same HS1.out (ws_old HT1.out (MapT.lt HS1.out) (Or.inl HO.out)))
 have hwl:=HQ1.out.wlt
 have hset:=HS2.out
 have hlen:=run_lenSet s
 simp only[SetT] at hset
 have HSH:Hid (∀w',w1.grownBy w' none→Calls Tryz.prog 50 #[.pointer (some ⟨wb,0,none⟩),.int .u16 ((s.mem.length:Int)%65536)] w' (WPost (fun k=>own k∨k=gb) wb (l++eID ⟨key,ver⟩++e2 s.mem.length) w')):=(show ∀_,_→Calls _ _ _ _ _ from fun w' hg=>(HQ1.out.keep hg).shortZ (by have:=HL.out;omega) s.mem.length)
 go_upto_region 2 with fail
 go_still_tail 6,(by kernel_rfl)
 go_upto_region 3 with (go_at_call 50;refine(HSH.out _ (grown_drew (grown_refl _))).mono ?_;rintro e w2 ⟨rfl,hq,ht⟩;have HQ2:=Lib.hid hq;have HT2:=Lib.hid (HT1.out.trans (grown_turn (grown_drew (grown_refl _)) ht));clear hq ht)
 clear hset hlen HSH
 have HS3:Hid (SetT w2 s):=(show SetT _ _ from MapT.same HS1.out (ws_old HT2.out (MapT.lt HS1.out) (Or.inl HO.out)))
 have hwl:=HQ2.out.wlt
 have HG3:=Lib.hid (World.grownBy_alloc w2 (.cells #[.map (some s.blk)] 127) none)
 have HS4:Hid (SetT (w2.alloc (.cells #[.map (some s.blk)] 127)) s):=(show SetT _ _ from MapT.kept HS3.out HG3.out (by simp))
 have HSO:Hid (Calls Tryz.prog 81 #[.func (.func 145) #[] #[.pointer (some ⟨w2.heap.size,0,none⟩)]] (w2.alloc (.cells #[.map (some s.blk)] 127)) fun e w'=>∃v,e = .returned v∧Ints (w2.alloc (.cells #[.map (some s.blk)] 127)) w' v (nsort s.mem)):=(show Calls _ _ _ _ _ from sortedI_any s HS4.out HF.out.1 HF.out.2 w2.heap.size (by simp) (by simp[go_sem]))
 have hnl:=nsort_len s.mem
 generalize hns:nsort s.mem=ks at *
 go_upto_block 0 with (first
  | (go_at_call 82;refine(keysI_any (some s.blk) _).mono ?_;rintro e w3 ⟨rfl,rfl⟩)
  | (go_at_call 81;refine HSO.out.mono ?_;rintro e w4 ⟨v,rfl,hv⟩;obtain⟨p4,c4,rfl⟩:=ints_form hv;have HV:=Lib.hid hv;clear hv))
 have HG4:=Lib.hid (grown_trans HG3.out HV.out.2.2)
 have HQ4:=Lib.hid (HQ2.out.keep HG4.out)
 have HT4:=Lib.hid (HT2.out.trans (grown_turn HG4.out (Turn.refl _ w4)))
 clear HSO HS3 HS4 HS2
 have HKL:Hid (ks.length=s.mem.length):=(show _=_ from hnl)
 rcases Nat.eq_zero_or_pos ks.length with h0|h0
 ·have hks:ks = []:=List.eq_nil_of_length_eq_zero h0
  have HKN:Hid (ks = []):=(show _=_ from hks)
  have hm0:s.mem.length=0:=by omega
  clear hks hns hnl HKL
  go_wp2
  go_loopw [22] (fun x wr=>x = .int .i64 0∧wr=w4) (fun _ _=>0)
  case atStart=>exact⟨rfl,rfl⟩
  case round=>
   obtain⟨rfl,rfl⟩:=hrel
   go_wp2
   first|go_end0|refine bodyPost_ret (results_none rfl _ _ _) rfl ?_
   rw[←HE.out,HKN.out,List.flatMap_nil,List.append_nil]
   exact ws_end HG1.out HQ4.out HT4.out
 ·obtain⟨g,cap,hvf⟩:=row_form HV.out.1 h0
  injection hvf with e1 e2 e3
  subst e1
  have hr4:=HV.out.1
  have hgl:=hr4.lt g rfl
  have hm6:s.mem.length≤1000000:=HF.out.2
  have HQ5:Hid (WS (fun k=>(own k∨k=gb)∨k=g) wb (l++eID ⟨key,ver⟩++Go.Proofs.YtjfelfjobeeenaaGreat.e2 s.mem.length) w4):=(show WS _ _ _ _ from (HQ2.out.keep HG3.out).fresh HV.out.2.2 g hgl.1 hgl.2)
  have hce:∀k,(hk:k<ks.length)→w4.cell? ⟨g,k,none⟩=some (.int .i64 ks[k]):=fun k hk=>by
   rw[World.ownsRow.cellAt hr4 k (by omega),List.getElem?_map,List.getElem?_eq_getElem hk];rfl
  have HCE:=Lib.hid hce
  have HGL:Hid (g<w4.heap.size):=(show _<_ from hgl.2)
  clear hr4 hgl hns e2 e3 hce
  go_wp2
  go_loopw [22] (fun x wr=>∃k:Nat,k≤s.mem.length∧x = .int .i64 k∧WS (fun k=>(own k∨k=gb)∨k=g) wb (l++eID ⟨key,ver⟩++Go.Proofs.YtjfelfjobeeenaaGreat.e2 s.mem.length++(ks.take k).flatMap Go.Proofs.YtjfelfjobeeenaaGreat.e2) wr∧Turn (fun k_1=>¬((own k_1∨k_1=gb)∨k_1=g)) w4 wr) (fun x _=>s.mem.length-(intOf x).toNat)
  case atStart=>exact⟨0,Nat.zero_le _,rfl,by simpa using HQ5.out,Turn.refl _ _⟩
  case round=>
   obtain⟨k,hk,rfl,hws,htu⟩:=hrel
   have HW:=Lib.hid hws
   have HTU:=Lib.hid htu
   by_cases hlt:k<s.mem.length
   ·have hkl:k<ks.length:=by omega
    have ck:wr.cell? ⟨g,k,none⟩=some (.int .i64 ks[k]):=(World.cell?_of_block (a:=⟨g,k,none⟩) (ws_old htu HGL.out (Or.inr rfl))).trans (HCE.out k hkl)
    have hwl:=hws.wlt
    have HN:=Lib.hid (flat_take_succ Go.Proofs.YtjfelfjobeeenaaGreat.e2 ks k hkl)
    have HLK:Hid ((l++eID ⟨key,ver⟩++Go.Proofs.YtjfelfjobeeenaaGreat.e2 s.mem.length++(ks.take k).flatMap Go.Proofs.YtjfelfjobeeenaaGreat.e2).length≤100000):=(show _≤_ from by
     have h1:=HL.out.2.2
     have h2:=flat2_len (ks.take k)
     rw[List.length_append,h2,List.length_take]
     omega)
    clear hws htu
    generalize ks[k]=z at *
    go_wp2_with (go_at_call 50;refine(HW.out.shortZ HLK.out z).mono ?_;rintro e w5 ⟨rfl,hq,ht⟩;have HQ6:=Lib.hid hq;have HT6:=Lib.hid (HTU.out.trans ht);clear hq ht)
    go_roundw
    case rel=>exact⟨k+1,by omega,by go_num,by rw[HN.out,←List.append_assoc];exact HQ6.out,HT6.out⟩
    case measure=>simp[intOf];omega
   ·obtain rfl:k=s.mem.length:=by omega
    have HTK:Hid (ks.take s.mem.length=ks):=(show _=_ from List.take_of_length_le (by omega))
    clear hws htu
    go_wp2
    first|go_end0|refine bodyPost_ret (results_none rfl _ _ _) rfl ?_
    rw[←HE.out]
    rw[HTK.out] at HW
    have h1:=ws_end (grown_refl w4) HW.out HTU.out
    exact ws_end HG1.out h1.2.1 (HT4.out.trans h1.2.2)
end
end Go.Proofs.YtjfelfjobeeenaaGreat
