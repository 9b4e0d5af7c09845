/- Bytes: the walk. Conditions: a table that lies in memory; keys of the machine; not too many bytes. table.Get: the walk. Conditions: bytes that lie in memory. The reader's bit and id: the walks, with the way out by a panic. Conditions: bytes that lie in memory. starfishref02.Bytes: the walk. Conditions: at most 8 bytes. starfishref25.Bytes at each kind. Conditions: a command that may be. starfishref25.May: the walk. Conditions: none. -/
import Derived.Test.YtjfelfjobeeenaaGreatP35
import Derived.Test.YtjfelfjobeeenaaGreatP20
import Derived.Test.YtjfelfjobeeenaaGreatP32
import Derived.Lib.AppendStr
import Derived.Deep.OwnRows
import Derived.Laws.OwnMore
namespace Go.Proofs.YtjfelfjobeeenaaGreat
set_option linter.unusedVariables false
set_option linter.unusedSimpArgs false
open Go.RowKit Go.Sf Go.Shelf Go.Maps
def encT (T:Tab):List Int:=e2 T.lives.length++e2 T.w++e8 T.offers++e8 T.next++T.lives.flatMap e8++rowsC T.calls++rowsV T.values++rowsP T.pending++rowsH T.holds++rowsH T.refuses
structure TFit (T:Tab):Prop where
 ll:T.lives.length≤1000000
 ck:∀p∈T.calls,(Lit.int .i64 p.1).wf=true
 cl:T.calls.length≤1000000
 vk:∀p∈T.values,p.1.size≤maxLen
 vl:T.values.length≤1000000
 pl:T.pending.length≤1000000
 hl:T.holds.length≤1000000
 rl:T.refuses.length≤1000000
 hf:∀p∈T.holds,Fits p.2.mem
 rf:∀p∈T.refuses,Fits p.2.mem
 len:(encT T).length≤70000
theorem TRep.turned {w W:World} {tb:Nat} {T:Tab} {own:Nat→Prop} (h:TRep w tb T) (ht:Turn (fun k=>¬own k) w W) (ho:∀b∈T.blocks tb,own b):TRep W tb T:=
 h.same fun b hb=>ht.block b (h.lt b hb) (fun e=>e (ho b hb))
theorem ws_start (w:World):WS (fun k=>k<w.heap.size) w.heap.size [] (w.alloc (.cells #[.slice none 0 0] 96)):=
 ⟨⟨.slice none 0 0,⟨heap_alloc_new w _,World.ownsRow_nil _ _ _ _⟩,fun g hg=>by simp[Value.ownBlock] at hg⟩,Nat.lt_irrefl _,fun g hg=>by simp;omega⟩
theorem WS.out_ws {own:Nat→Prop} {w:World} {wb:Nat} {l:List Int} (h:WS own wb l w) (hl:l.length≤100000):Calls Tryz.prog 53 #[.pointer (some ⟨wb,0,none⟩)] w fun e w'=>∃v',e = .returned v'∧w'.ownsRow w.heap.size 5 1 v' l.length (bytesV l)∧w.grownBy w' none:=by
 obtain⟨v,h1,_⟩:=h.ex
 exact out_any h1 (by omega)
theorem turn_grownBy {w w':World} (h:Turn (fun k=>¬k<w.heap.size) w w'):w.grownBy w' none:=⟨h.os,h.tape,h.output,h.size,fun k hk _=>h.block k hk (fun e=>e hk)⟩
section
variable {w : World} {tb : Nat} {T : Tab}
set_option maxHeartbeats 16000000 in
set_option maxRecDepth 100000 in
theorem bytes_any (h:TRep w tb T) (hf:TFit T):Calls Tryz.prog 40 #[.pointer (some ⟨tb,0,none⟩)] w fun e w'=>∃v,e = .returned v∧w'.ownsRow w.heap.size 5 1 v (encT T).length (bytesV (encT T))∧w.grownBy w' none:=by
 have HE:Hid (e2 T.lives.length++e2 T.w++e8 T.offers++e8 T.next++T.lives.flatMap e8++rowsC T.calls++rowsV T.values++rowsP T.pending++rowsH T.holds++rowsH T.refuses=encT T):=(show _=_ from rfl)
 have hlen:=hf.len
 rw[←HE.out] at hlen
 have HF:=Lib.hid hf
 have HT0:=Lib.hid h
 have htb:=h.tlt
 have HOB:Hid (∀b∈T.blocks tb,b<w.heap.size):=(show ∀_,_→_ from h.lt)
 have HS0:=Lib.hid (ws_start w)
 have HG0:=Lib.hid (World.grownBy_alloc w (.cells #[.slice none 0 0] 96) none)
 clear h hf
 have hll:(T.lives.length:Int)≤1000000:=by have:=HF.out.ll;omega
 generalize henc:encT T=ET at *
 simp only[List.length_append] at hlen
 have HLN:=Lib.hid hlen
 clear hlen
 go_enter Tryz.func40,Tryz.ntmps40
 go_upto_region 4 with fail
 generalize w.alloc (.cells #[.slice none 0 0] 96)=w0 at *
 have HU0:Hid (Turn (fun k=>¬k<w.heap.size) w w0):=(show Turn _ _ _ from grown_turn HG0.out (Turn.refl _ _))
 generalize hwb:w.heap.size=wb at *
 have T0:=HT0.out.turned HU0.out HOB.out
 have hwl:=HS0.out.wlt
 have c3:=T0.c3
 have HT1:=Lib.hid T0
 clear T0
 go_upto_region 5 with (go_at_call 50;refine(HS0.out.shortZ (by have:=HLN.out;simp only[List.length_nil];omega) T.lives.length).mono ?_;rintro e w1 ⟨rfl,hq,ht⟩;have HS1:=Lib.hid hq;have HU1:=Lib.hid (HU0.out.trans ht);clear hq ht)
 clear c3 hwl
 have T1:=HT0.out.turned HU1.out HOB.out
 have hwl:=HS1.out.wlt
 have c0:=T1.c0
 have HT2:=Lib.hid T1
 clear T1
 go_upto_region 6 with (go_at_call 50;refine(HS1.out.shortZ (by have:=HLN.out;simp only[List.nil_append];omega) T.w).mono ?_;rintro e w2 ⟨rfl,hq,ht⟩;have HS2:=Lib.hid hq;have HU2:=Lib.hid (HU1.out.trans ht);clear hq ht)
 clear c0 hwl
 have T2:=HT0.out.turned HU2.out HOB.out
 have hwl:=HS2.out.wlt
 have c1:=T2.c1
 have HT3:=Lib.hid T2
 clear T2
 go_upto_region 7 with (go_at_call 51;refine(HS2.out.longZ (by have:=HLN.out;simp only[List.length_append,List.nil_append];omega) T.offers).mono ?_;rintro e w3 ⟨rfl,hq,ht⟩;have HS3:=Lib.hid hq;have HU3:=Lib.hid (HU2.out.trans ht);clear hq ht)
 clear c1 hwl
 have T3:=HT0.out.turned HU3.out HOB.out
 have hwl:=HS3.out.wlt
 have c2:=T3.c2
 have HT4:=Lib.hid T3
 clear T3
 go_upto_region 8 with (go_at_call 51;refine(HS3.out.longZ (by have:=HLN.out;simp only[List.length_append,List.nil_append];omega) T.next).mono ?_;rintro e w4 ⟨rfl,hq,ht⟩;have HS4:=Lib.hid hq;have HU4:=Lib.hid (HU3.out.trans ht);clear hq ht)
 clear c2 hwl
 have T4:=HT0.out.turned HU4.out HOB.out
 have c3:=T4.c3
 have HT5:=Lib.hid T4
 have hwl:=HS4.out.wlt
 clear T4
 go_upto_block 0 with fail
 clear c3 hwl
 go_cut [42] (fun _ wx=>WS (fun k=>k<wb) wb ((((([]++e2 T.lives.length)++e2 T.w)++e8 T.offers)++e8 T.next)++T.lives.flatMap e8) wx∧Turn (fun k=>¬k<wb) w wx)
 case first=>
  go_wp2
  go_loopw [42] (fun x wr=>∃k:Nat,k≤T.lives.length∧x = .int .i64 k∧WS (fun k=>k<wb) wb ((((([]++e2 T.lives.length)++e2 T.w)++e8 T.offers)++e8 T.next)++(T.lives.take k).flatMap e8) wr∧Turn (fun k=>¬k<wb) w wr) (fun x _=>T.lives.length-(intOf x).toNat)
  case atStart=>exact⟨0,Nat.zero_le _,rfl,by simpa using HS4.out,HU4.out⟩
  case round=>
   obtain⟨k,hk,rfl,hws,htu⟩:=hrel
   have HW:=Lib.hid hws
   have HTU:=Lib.hid htu
   by_cases hlt:k<T.lives.length
   ·have TR:=HT0.out.turned htu HOB.out
    have cl:=TR.life k hlt
    have hgl:T.lives.getD k 0=T.lives[k]:=by simp[List.getD,List.getElem?_eq_getElem hlt]
    rw[hgl] at cl
    have HN:=Lib.hid (flat_take_succ e8 T.lives k hlt)
    have HLK:Hid (((((([]++e2 T.lives.length)++e2 T.w)++e8 T.offers)++e8 T.next)++(T.lives.take k).flatMap e8).length≤100000):=(show _≤_ from by
     have h1:=HLN.out
     have h2:=flat_take_le e8 T.lives k hlt
     simp only[List.length_append,List.length_nil]
     omega)
    have hwl:=hws.wlt
    clear hws htu hgl
    have HTR:=Lib.hid TR
    clear TR
    generalize T.lives[k]=z at *
    go_wp2_with (go_at_call 51;refine(HW.out.longZ HLK.out z).mono ?_;rintro e wn ⟨rfl,hq,ht⟩;have HQ6:=Lib.hid hq;have HT6:=Lib.hid (HTU.out.trans ht);clear hq ht)
    go_roundw
    case rel=>exact⟨k+1,by omega,by go_num,by rw[HN.out,←List.append_assoc];exact HQ6.out,HT6.out⟩
    case measure=>simp[intOf];omega
   ·obtain rfl:k=T.lives.length:=by omega
    rw[List.take_length] at HW
    clear hws htu
    go_wp2
    go_meet
    exact⟨HW.out,HTU.out⟩
 case rest=>
  obtain⟨hq,ht⟩:=hcut
  have HS5:=Lib.hid hq
  have HU5:=Lib.hid ht
  clear hq ht HS0 HS1 HS2 HS3 HS4 HU0 HU1 HU2 HU3 HU4 HT1 HT2 HT3 HT4 HT5
  generalize wc=w5 at *
  have T5:=HT0.out.turned HU5.out HOB.out
  have hwl:=HS5.out.wlt
  have c4:=T5.c4
  have HT6:=Lib.hid T5
  clear T5
  go_upto_region 14 with (go_at_call 84;refine(rowsC_any HS5.out T.cb T.calls HT6.out.calls (HOB.out T.cb (by simp[Tab.blocks])) HF.out.ck HF.out.cl (by have:=HLN.out;simp only[List.length_append,List.nil_append];omega)).mono ?_;rintro e w6 ⟨rfl,hq,ht⟩;have HS6:=Lib.hid hq;have HU6:=Lib.hid (HU5.out.trans ht);clear hq ht)
  clear c4 hwl
  have T6:=HT0.out.turned HU6.out HOB.out
  have hwl:=HS6.out.wlt
  have c5:=T6.c5
  have HT7:=Lib.hid T6
  clear T6
  go_upto_region 15 with (go_at_call 88;refine(rowsV_any HS6.out T.vb T.values HT7.out.values (HOB.out T.vb (by simp[Tab.blocks])) HF.out.vk HF.out.vl (by have:=HLN.out;simp only[List.length_append,List.nil_append];omega)).mono ?_;rintro e w7 ⟨rfl,hq,ht⟩;have HS7:=Lib.hid hq;have HU7:=Lib.hid (HU6.out.trans ht);clear hq ht)
  clear c5 hwl
  have T7:=HT0.out.turned HU7.out HOB.out
  have hwl:=HS7.out.wlt
  have c6:=T7.c6
  have HT8:=Lib.hid T7
  clear T7
  go_upto_region 16 with (go_at_call 92;refine(rowsP_any HS7.out T.pb T.pending HT8.out.pending (HOB.out T.pb (by simp[Tab.blocks])) HF.out.pl (by have:=HLN.out;simp only[List.length_append,List.nil_append];omega)).mono ?_;rintro e w8 ⟨rfl,hq,ht⟩;have HS8:=Lib.hid hq;have HU8:=Lib.hid (HU7.out.trans ht);clear hq ht)
  clear c6 hwl
  have T8:=HT0.out.turned HU8.out HOB.out
  have hwl:=HS8.out.wlt
  have c7:=T8.c7
  have HT9:=Lib.hid T8
  clear T8
  go_upto_region 17 with (go_at_call 94;refine(rowsH_any HS8.out T.hb T.holds HT9.out.holds (HOB.out T.hb (by simp[Tab.blocks])) (fun p hp=>⟨HT9.out.hsets p hp,HOB.out p.2.blk (by simp only[Tab.blocks,List.mem_cons,List.mem_append,List.mem_map];exact Or.inr (Or.inr (Or.inr (Or.inr (Or.inr (Or.inr (Or.inr (Or.inl ⟨p,hp,rfl⟩)))))))),HF.out.hf p hp⟩) HF.out.hl (by have:=HLN.out;simp only[List.length_append,List.nil_append];omega)).mono ?_;rintro e w9 ⟨rfl,hq,ht⟩;have HS9:=Lib.hid hq;have HU9:=Lib.hid (HU8.out.trans ht);clear hq ht)
  clear c7 hwl
  have T9:=HT0.out.turned HU9.out HOB.out
  have hwl:=HS9.out.wlt
  have c8:=T9.c8
  have HT10:=Lib.hid T9
  clear T9
  go_upto_region 18 with (go_at_call 94;refine(rowsH_any HS9.out T.rb T.refuses HT10.out.refuses (HOB.out T.rb (by simp[Tab.blocks])) (fun p hp=>⟨HT10.out.rsets p hp,HOB.out p.2.blk (by simp only[Tab.blocks,List.mem_cons,List.mem_append,List.mem_map];exact Or.inr (Or.inr (Or.inr (Or.inr (Or.inr (Or.inr (Or.inr (Or.inr ⟨p,hp,rfl⟩)))))))),HF.out.rf p hp⟩) HF.out.rl (by have:=HLN.out;simp only[List.length_append,List.nil_append];omega)).mono ?_;rintro e w10 ⟨rfl,hq,ht⟩;have HS10:=Lib.hid hq;have HU10:=Lib.hid (HU9.out.trans ht);clear hq ht)
  clear c8 hwl
  have hwl:=HS10.out.wlt
  go_wp2_with (go_at_call 53;refine(HS10.out.out_ws (by have:=HLN.out;simp only[List.length_append,List.nil_append];omega)).mono ?_;rintro e w11 ⟨v,rfl,hv,hg⟩;have HV:=Lib.hid hv;have HG:=Lib.hid hg;clear hv hg)
  go_ret
  have hge:w.grownBy w10 none:=turn_grownBy (by have:=HU10.out;rw[←hwb] at this;exact this)
  refine⟨v,rfl,?_,grown_trans hge HG.out⟩
  have h1:=row_lower HV.out hge.size
  rw[←HE.out]
  rw[List.nil_append] at h1
  exact h1
end
open Go.RowKit Go.Sf
@[go_sem] theorem as_none (v:Value) (w:World):(Instr.typeAssert (.iface 186 v) 20 186 false).run Tryz.prog w = .ok v w:=by kernel_rfl
set_option maxRecDepth 100000 in
theorem caught_some (W:World):Calls Tryz.prog 56 #[.iface 186 (.agg #[])] W fun e w'=>e = .returned (.bool true)∧w'=W:=by
 go_enter Tryz.func56,Tryz.ntmps56
 go_wp2
 go_ret
 exact⟨rfl,rfl⟩
set_option maxRecDepth 100000 in
theorem caught_none (W:World):Calls Tryz.prog 56 #[.nilIface] W fun e w'=>e = .returned (.bool false)∧w'=W:=by
 go_enter Tryz.func56,Tryz.ntmps56
 go_wp2
 go_ret
 exact⟨rfl,rfl⟩
def zeros:Array Value:=#[.int .u8 0,.int .i64 0,.int .i64 0,.int .i64 0,.int .i64 0,.int .i64 0,.string ⟨#[]⟩,.int .i64 0]
section
variable {W w : World} {a0 a1 a2 a3 a4 a5 a6 a7 : Value} {l : List Int}
end
section
variable {W w : World} {a0 a1 a2 a3 a4 a5 a6 a7 : Value} {l : List Int}
end
def RTwo {α:Type} (B:Nat) (w:World) (rb:Nat) (o:Option (α × List Int)) (enc:α→Value) (e:Ending) (w':World):Prop:=
 Turn (fun k=>k=rb) w w'∧((∃x t,o=some (x,t)∧e = .returned (enc x)∧Rd B w' rb t∧BL t)∨(o=none∧e=thrown))
def rdBit (l:List Int):Option (Bool × List Int):=(rd 1 l).bind fun p=>if p.1≤1 then some (decide (p.1=1),p.2) else none
def rdID (l:List Int):Option (ID × List Int):=(rdT l).bind fun p=>(rd 8 p.2).bind fun q=>some (⟨p.1,s64 q.1⟩,q.2)
section
variable {B : Nat} {w : World} {rb : Nat} {l : List Int}
theorem rd_lt {n x:Nat} {l t:List Int} (hb:BL l) (h:rd n l=some (x,t)):x<256 ^ n:=(rd_some hb h).2.1
theorem Rd.turn {w':World} (h:Rd B w rb l) (ht:Turn (fun k=>¬k<B∧k≠rb) w w') (hB:B≤w.heap.size) (hrb:rb<w.heap.size):Rd B w' rb l:=by
 obtain⟨v,hb,hv⟩:=h.ex
 exact⟨h.le,v,(ht.block rb hrb (fun e=>e.2 rfl)).trans hb,hv.turn fun k hk=>ht.block k (by omega) (fun e=>e.1 hk)⟩
theorem s64_sm {x:Nat} (h:x<9223372036854775808):s64 x=(x:Int):=by rw[s64,if_pos h]
theorem number_two (h:Rd B w rb l) (hB:B≤w.heap.size) (hl:BL l) (n:Nat) (hn:n≤8):Calls Tryz.prog 57 #[.pointer (some ⟨rb,0,none⟩),.int .i64 n] w (RTwo B w rb (rd n l) (fun x=>.int .i64 (s64 x))):=by
 refine(number_read h hB hl n hn).mono ?_
 rintro e w1 ⟨ht,hm⟩
 refine⟨ht,?_⟩
 cases hr:rd n l with
 | none=>rw[hr] at hm;exact Or.inr ⟨rfl,hm⟩
 | some p=>
  obtain⟨x,t⟩:=p
  rw[hr] at hm
  obtain⟨⟨v,rfl,rfl⟩,hd⟩:=hm
  exact Or.inl ⟨x,t,rfl,rfl,hd,(rd_some hl hr).2.2⟩
theorem text_two (h:Rd B w rb l) (hB:B≤w.heap.size) (hl:BL l):Calls Tryz.prog 58 #[.pointer (some ⟨rb,0,none⟩)] w (RTwo B w rb (rdT l) Value.string):=by
 refine(text_read h hB hl).mono ?_
 rintro e w1 ⟨ht,hm⟩
 refine⟨ht,?_⟩
 cases hr:rdT l with
 | none=>rw[hr] at hm;exact Or.inr ⟨rfl,hm⟩
 | some p=>
  obtain⟨x,t⟩:=p
  rw[hr] at hm
  obtain⟨⟨v,rfl,rfl⟩,hd⟩:=hm
  exact Or.inl ⟨x,t,rfl,rfl,hd,(rdT_some hl hr).2.2⟩
set_option maxHeartbeats 2000000 in
set_option maxRecDepth 100000 in
theorem bit_two (h:Rd B w rb l) (hB:B≤w.heap.size) (hl:BL l):Calls Tryz.prog 97 #[.pointer (some ⟨rb,0,none⟩)] w (RTwo B w rb (rdBit l) Value.bool):=by
 have HN:=Lib.hid (number_two h hB hl 1 (by omega))
 have HL:=Lib.hid hl
 clear h hl
 go_enter Tryz.func97,Tryz.ntmps97
 go_wp2_with (first
  | (go_at_call 57;refine HN.out.mono ?_;rintro e w1 ⟨ht,hq⟩;have HT:=Lib.hid ht;clear ht;rcases hq with ⟨x,t,hr,rfl,hd,hb⟩|⟨hr,rfl⟩ <;> first
   | (have HR:=Lib.hid hr;have HD:=Lib.hid (And.intro hd hb);have hx:=rd_lt HL.out hr;(try dsimp only);rw[s64_sm (by omega)];clear hr hd hb;rcases(show x=0∨x=1∨1<x from by omega) with rfl|rfl|h1)
   | (simp only[thrown];have HR:=Lib.hid hr;clear hr))
  | (go_at_call 59;first|(refine(want_true _).mono ?_;rintro e w2 ⟨rfl,rfl⟩)|(rw[show decide ((x:Int)≤1)=false from by simp;omega];refine(want_false _).mono ?_;rintro e w2 ⟨rfl,rfl⟩;simp only[thrown])))
 ·go_ret
  exact⟨HT.out,Or.inl ⟨false,t,by simp[rdBit,HR.out],rfl,HD.out.1,HD.out.2⟩⟩
 ·go_ret
  exact⟨HT.out,Or.inl ⟨true,t,by simp[rdBit,HR.out],rfl,HD.out.1,HD.out.2⟩⟩
 ·exact⟨rfl,HT.out,Or.inr ⟨by rw[rdBit,HR.out];simp only[Option.bind_some];rw[if_neg (by omega)],rfl⟩⟩
 ·exact⟨rfl,HT.out,Or.inr ⟨by simp[rdBit,HR.out],rfl⟩⟩
theorem id_box {W w1 w2:World} {g:Nat} {a b:Value} {T:TypeId} (h:W.heap[g]? = some (.cells #[a,b] T (0,0))) (hrb:rb<g) (hg:w.grownBy W none) (h1:Turn (fun k=>k=rb) W w1) (h2:Turn (fun k=>k=rb) w1 w2):w2.heap[g]? = some (.cells #[a,b] T (0,0))∧w2.cell? ⟨g,0,none⟩=some a∧w2.cell? ⟨g,1,none⟩=some b∧w2.frozen? ⟨g,0,none⟩=false∧w2.frozen? ⟨g,1,none⟩=false:=by
 have hl:=(Array.getElem?_eq_some_iff.1 h).1
 have e:w2.heap[g]? = some (.cells #[a,b] T (0,0)):=((h1.trans h2).block g hl (show ¬g=rb by omega)).trans h
 exact⟨e,by simp[World.cell?,e],by simp[World.cell?,e],by simp[World.frozen?,e],by simp[World.frozen?,e]⟩
theorem turn_new {bs:Nat→Prop} {a b c:World} (hrb:rb<a.heap.size) (h:Turn bs a b) (g:Turn (fun k=>k=a.heap.size) b c):Turn bs a c:=
 ⟨g.os.trans h.os,g.tape.trans h.tape,g.output.trans h.output,Nat.le_trans h.size g.size,fun k hk hn=>(g.block k (Nat.lt_of_lt_of_le hk h.size) (show ¬k=a.heap.size by omega)).trans (h.block k hk hn)⟩
theorem id_end {w2:World} {g:Nat} {a b:Value} {T:TypeId} {t:List Int} (h:w2.heap[g]? = some (.cells #[a,b] T (0,0))) (x y:Value) (hd:Rd B w2 rb t) (hne:rb≠g) (hB:B≤g) :
  (((w2.setCell ⟨g,0,none⟩ x).setCell ⟨g,1,none⟩ y).cell? ⟨g,0,none⟩=some x∧((w2.setCell ⟨g,0,none⟩ x).setCell ⟨g,1,none⟩ y).cell? ⟨g,1,none⟩=some y∧Rd B ((w2.setCell ⟨g,0,none⟩ x).setCell ⟨g,1,none⟩ y) rb t∧Turn (fun k=>k=g) w2 ((w2.setCell ⟨g,0,none⟩ x).setCell ⟨g,1,none⟩ y)):=by
 have ht:=(turn_set w2 g 0 x).trans (turn_set _ g 1 y)
 obtain⟨v,hb,hv⟩:=hd.ex
 have hlb:=(Array.getElem?_eq_some_iff.1 hb).1
 refine⟨by simp[World.setCell,World.cell?,Array.getElem?_modify,h],by simp[World.setCell,World.cell?,Array.getElem?_modify,h],⟨hd.le,v,(ht.block rb hlb hne).trans hb,hv.turn fun k hk=>?_⟩,ht⟩
 exact(Below.heap_setCell _ _ _ k (show k≠g by omega)).trans (Below.heap_setCell _ _ _ k (show k≠g by omega))
set_option maxHeartbeats 2000000 in
set_option maxRecDepth 100000 in
theorem id_two (h:Rd B w rb l) (hB:B≤w.heap.size) (hl:BL l):Calls Tryz.prog 98 #[.pointer (some ⟨rb,0,none⟩)] w (RTwo B w rb (rdID l) encID):=by
 have hrb:rb<w.heap.size:=by obtain⟨v,hb,-⟩:=h.ex;exact(Array.getElem?_eq_some_iff.1 hb).1
 generalize hW:w.alloc (.cells #[.string ⟨#[]⟩,.int .i64 0] 54)=W
 have hg:w.grownBy W none:=hW ▸ World.grownBy_alloc w _ none
 have hn:W.heap[w.heap.size]? = some (.cells #[.string ⟨#[]⟩,.int .i64 0] 54 (0,0)):=hW ▸ heap_alloc_new w _
 have hd:Rd B W rb l:=h.turn (grown_turn hg (Turn.refl _ _)) hB hrb
 have HT0:Hid (Turn (fun k=>k=rb) w W):=(show Turn _ _ _ from grown_turn hg (Turn.refl _ _))
 have HG:=Lib.hid hg
 have HR:=Lib.hid hd
 have HL:=Lib.hid hl
 have HNW:=Lib.hid hn
 have HRB:=Lib.hid hrb
 have HRG:=Lib.hid hB
 have HBW:=Lib.hid (Nat.le_trans hB hg.size)
 clear h hd hn hg hl hB hrb
 go_enter Tryz.func98,Tryz.ntmps98
 go_wp2_with (first
  | (go_at_call 58;(try rw[hW]);refine(text_two HR.out HBW.out HL.out).mono ?_;rintro e w1 ⟨ht,hq⟩;rcases hq with ⟨k,t1,hr,rfl,hd,hb⟩|⟨hr,rfl⟩ <;> first
   | (have HD1:=Lib.hid (And.intro hd hb);have HX1:=Lib.hid hr;have HT1:=Lib.hid ht;clear hr hd hb ht)
   | (simp only[thrown];have HX1:=Lib.hid hr;have HT1:=Lib.hid ht;clear hr ht))
  | (go_at_call 57;refine(number_two HD1.out.1 (Nat.le_trans HBW.out HT1.out.size) HD1.out.2 8 (by omega)).mono ?_;rintro e w2 ⟨ht,hq⟩;rcases hq with ⟨x,t2,hr,rfl,hd,hb⟩|⟨hr,rfl⟩ <;> first
   | (have hnb:=id_box HNW.out HRB.out HG.out HT1.out ht;obtain⟨hc0,hc1,hf0,hf1⟩:=hnb.2;have HD2:=Lib.hid (And.intro hd hb);have HX2:=Lib.hid hr;have HT2:=Lib.hid ht;clear hr hd hb ht)
   | (simp only[thrown];have HX2:=Lib.hid hr;have HT2:=Lib.hid ht;clear hr ht)))
 ·have h2:=id_end hnb.1 (.string k) (.int .i64 (s64 x)) HD2.out.1 (show rb≠w.heap.size by have:=HRB.out;omega) (show B≤w.heap.size from HRG.out)
  refine bodyPost_ret (v:=.agg #[.string k,.int .i64 (s64 x)]) (by simp[results,Tryz.results98,go_sem,h2.1,h2.2.1]) rfl ⟨turn_new HRB.out ((HT0.out.trans HT1.out).trans HT2.out) h2.2.2.2,Or.inl ⟨⟨k,s64 x⟩,t2,by simp[rdID,HX1.out,HX2.out],rfl,h2.2.2.1,HD2.out.2⟩⟩
 ·exact⟨rfl,(HT0.out.trans HT1.out).trans HT2.out,Or.inr ⟨by simp[rdID,HX1.out,HX2.out],rfl⟩⟩
 ·exact⟨rfl,HT0.out.trans HT1.out,Or.inr ⟨by simp[rdID,HX1.out],rfl⟩⟩
end
theorem beqE (k:ByteArray):k.toList.isEmpty=decide (k=⟨#[]⟩):=by
 rw[Bool.eq_iff_iff,decide_eq_true_iff]
 obtain⟨⟨x⟩⟩:=k
 rw[ByteArray.toList_eq]
 simp
theorem ret_bool {a b:Bool} (h:a=b):Ending.returned (.bool a) = .returned (.bool b):=by rw[h]
set_option maxHeartbeats 2000000 in
set_option maxRecDepth 100000 in
theorem rbare_1 (node client inc req ver code:Int) (key:ByteArray) (W:World) :
  Calls Tryz.prog 46 #[encCmd ⟨1,node,client,inc,req,ver,key,code⟩] W fun e w'=>e = .returned (.bool (decide ((⟨1,node,client,inc,req,ver,key,code⟩:Cmd)=bareC ⟨1,node,client,inc,req,ver,key,code⟩)))∧W.grownBy w' none:=by
 have hb:=beqE key
 obtain⟨B,hB⟩:∃B,B=decide ((⟨1,node,client,inc,req,ver,key,code⟩:Cmd)=bareC ⟨1,node,client,inc,req,ver,key,code⟩):=⟨_,rfl⟩
 rw[←hB]
 have HB:=Lib.hid hB
 clear hB
 simp only[encCmd]
 go_enter Tryz.func46,Tryz.ntmps46
 go_wp2
 all_goals
  go_ret
  refine⟨ret_bool ?_,World.grownBy_alloc W _ none⟩
  rw[HB.out]
  simp[bareC, *] <;> rfl
set_option maxHeartbeats 2000000 in
set_option maxRecDepth 100000 in
theorem rbare_2 (node client inc req ver code:Int) (key:ByteArray) (W:World) :
  Calls Tryz.prog 46 #[encCmd ⟨2,node,client,inc,req,ver,key,code⟩] W fun e w'=>e = .returned (.bool (decide ((⟨2,node,client,inc,req,ver,key,code⟩:Cmd)=bareC ⟨2,node,client,inc,req,ver,key,code⟩)))∧W.grownBy w' none:=by
 have hb:=beqE key
 obtain⟨B,hB⟩:∃B,B=decide ((⟨2,node,client,inc,req,ver,key,code⟩:Cmd)=bareC ⟨2,node,client,inc,req,ver,key,code⟩):=⟨_,rfl⟩
 rw[←hB]
 have HB:=Lib.hid hB
 clear hB
 simp only[encCmd]
 go_enter Tryz.func46,Tryz.ntmps46
 go_wp2
 all_goals
  go_ret
  refine⟨ret_bool ?_,World.grownBy_alloc W _ none⟩
  rw[HB.out]
  simp[bareC, *] <;> rfl
set_option maxHeartbeats 2000000 in
set_option maxRecDepth 100000 in
theorem rbare_3 (node client inc req ver code:Int) (key:ByteArray) (W:World) :
  Calls Tryz.prog 46 #[encCmd ⟨3,node,client,inc,req,ver,key,code⟩] W fun e w'=>e = .returned (.bool (decide ((⟨3,node,client,inc,req,ver,key,code⟩:Cmd)=bareC ⟨3,node,client,inc,req,ver,key,code⟩)))∧W.grownBy w' none:=by
 have hb:=beqE key
 obtain⟨B,hB⟩:∃B,B=decide ((⟨3,node,client,inc,req,ver,key,code⟩:Cmd)=bareC ⟨3,node,client,inc,req,ver,key,code⟩):=⟨_,rfl⟩
 rw[←hB]
 have HB:=Lib.hid hB
 clear hB
 simp only[encCmd]
 go_enter Tryz.func46,Tryz.ntmps46
 go_wp2
 all_goals
  go_ret
  refine⟨ret_bool ?_,World.grownBy_alloc W _ none⟩
  rw[HB.out]
  simp[bareC, *] <;> rfl
set_option maxHeartbeats 2000000 in
set_option maxRecDepth 100000 in
theorem rbare_4 (node client inc req ver code:Int) (key:ByteArray) (W:World) :
  Calls Tryz.prog 46 #[encCmd ⟨4,node,client,inc,req,ver,key,code⟩] W fun e w'=>e = .returned (.bool (decide ((⟨4,node,client,inc,req,ver,key,code⟩:Cmd)=bareC ⟨4,node,client,inc,req,ver,key,code⟩)))∧W.grownBy w' none:=by
 have hb:=beqE key
 obtain⟨B,hB⟩:∃B,B=decide ((⟨4,node,client,inc,req,ver,key,code⟩:Cmd)=bareC ⟨4,node,client,inc,req,ver,key,code⟩):=⟨_,rfl⟩
 rw[←hB]
 have HB:=Lib.hid hB
 clear hB
 simp only[encCmd]
 go_enter Tryz.func46,Tryz.ntmps46
 go_wp2
 all_goals
  go_ret
  refine⟨ret_bool ?_,World.grownBy_alloc W _ none⟩
  rw[HB.out]
  simp[bareC, *] <;> rfl
set_option maxHeartbeats 2000000 in
set_option maxRecDepth 100000 in
theorem rbare_5 (node client inc req ver code:Int) (key:ByteArray) (W:World) :
  Calls Tryz.prog 46 #[encCmd ⟨5,node,client,inc,req,ver,key,code⟩] W fun e w'=>e = .returned (.bool (decide ((⟨5,node,client,inc,req,ver,key,code⟩:Cmd)=bareC ⟨5,node,client,inc,req,ver,key,code⟩)))∧W.grownBy w' none:=by
 have hb:=beqE key
 obtain⟨B,hB⟩:∃B,B=decide ((⟨5,node,client,inc,req,ver,key,code⟩:Cmd)=bareC ⟨5,node,client,inc,req,ver,key,code⟩):=⟨_,rfl⟩
 rw[←hB]
 have HB:=Lib.hid hB
 clear hB
 simp only[encCmd]
 go_enter Tryz.func46,Tryz.ntmps46
 go_wp2
 all_goals
  go_ret
  refine⟨ret_bool ?_,World.grownBy_alloc W _ none⟩
  rw[HB.out]
  simp[bareC, *] <;> rfl
set_option maxHeartbeats 2000000 in
set_option maxRecDepth 100000 in
theorem rbare_6 (node client inc req ver code:Int) (key:ByteArray) (W:World) :
  Calls Tryz.prog 46 #[encCmd ⟨6,node,client,inc,req,ver,key,code⟩] W fun e w'=>e = .returned (.bool (decide ((⟨6,node,client,inc,req,ver,key,code⟩:Cmd)=bareC ⟨6,node,client,inc,req,ver,key,code⟩)))∧W.grownBy w' none:=by
 have hb:=beqE key
 obtain⟨B,hB⟩:∃B,B=decide ((⟨6,node,client,inc,req,ver,key,code⟩:Cmd)=bareC ⟨6,node,client,inc,req,ver,key,code⟩):=⟨_,rfl⟩
 rw[←hB]
 have HB:=Lib.hid hB
 clear hB
 simp only[encCmd]
 go_enter Tryz.func46,Tryz.ntmps46
 go_wp2
 all_goals
  go_ret
  refine⟨ret_bool ?_,World.grownBy_alloc W _ none⟩
  rw[HB.out]
  simp[bareC, *] <;> rfl
set_option maxHeartbeats 2000000 in
set_option maxRecDepth 100000 in
theorem rbare_7 (node client inc req ver code:Int) (key:ByteArray) (W:World) :
  Calls Tryz.prog 46 #[encCmd ⟨7,node,client,inc,req,ver,key,code⟩] W fun e w'=>e = .returned (.bool (decide ((⟨7,node,client,inc,req,ver,key,code⟩:Cmd)=bareC ⟨7,node,client,inc,req,ver,key,code⟩)))∧W.grownBy w' none:=by
 have hb:=beqE key
 obtain⟨B,hB⟩:∃B,B=decide ((⟨7,node,client,inc,req,ver,key,code⟩:Cmd)=bareC ⟨7,node,client,inc,req,ver,key,code⟩):=⟨_,rfl⟩
 rw[←hB]
 have HB:=Lib.hid hB
 clear hB
 simp only[encCmd]
 go_enter Tryz.func46,Tryz.ntmps46
 go_wp2
 all_goals
  go_ret
  refine⟨ret_bool ?_,World.grownBy_alloc W _ none⟩
  rw[HB.out]
  simp[bareC, *] <;> rfl
theorem rbare_any (c:Cmd) (h1:1≤c.kind) (h7:c.kind≤7) (W:World):Calls Tryz.prog 46 #[encCmd c] W fun e w'=>e = .returned (.bool (decide (c=bareC c)))∧W.grownBy w' none:=by
 obtain⟨kind,node,client,inc,req,ver,key,code⟩:=c
 simp only at h1 h7
 have h:kind=1∨kind=2∨kind=3∨kind=4∨kind=5∨kind=6∨kind=7:=by omega
 rcases h with rfl|rfl|rfl|rfl|rfl|rfl|rfl
 ·exact rbare_1 _ _ _ _ _ _ _ _
 ·exact rbare_2 _ _ _ _ _ _ _ _
 ·exact rbare_3 _ _ _ _ _ _ _ _
 ·exact rbare_4 _ _ _ _ _ _ _ _
 ·exact rbare_5 _ _ _ _ _ _ _ _
 ·exact rbare_6 _ _ _ _ _ _ _ _
 ·exact rbare_7 _ _ _ _ _ _ _ _
def rlongB (x:Int):Bool:=decide (0≤x∧x≤4611686018427387904)
set_option maxRecDepth 100000 in
theorem rlong (x:Int) (W:World):Calls Tryz.prog 47 #[.int .i64 x] W fun e w'=>e = .returned (.bool (rlongB x))∧w'=W:=by
 by_cases h0:0≤x
 ·by_cases h1:x≤4611686018427387904
  all_goals
   go_enter Tryz.func47,Tryz.ntmps47
   go_wp2
   go_ret
   exact⟨ret_bool (by simp[rlongB,h0,h1]),rfl⟩
 ·go_enter Tryz.func47,Tryz.ntmps47
  go_wp2
  go_ret
  exact⟨ret_bool (by simp[rlongB];omega),rfl⟩
theorem may_eq (kind node client inc req ver code:Int) (key:ByteArray):mayB ⟨kind,node,client,inc,req,ver,key,code⟩=(decide (1≤kind) && decide (kind≤7) && decide ((⟨kind,node,client,inc,req,ver,key,code⟩:Cmd)=bareC ⟨kind,node,client,inc,req,ver,key,code⟩) && decide (0≤node) && decide (node<255) && decide (0≤client) && decide (client≤65535) && rlongB inc && rlongB req && rlongB ver && decide ((key.size:Int)≤64) && decide (0≤code) && decide (code≤65535)):=by
 rw[Bool.eq_iff_iff]
 simp only[mayB,longB,smallB,rlongB,Bool.and_eq_true,decide_eq_true_eq]
 constructor
 ·rintro⟨⟨⟨⟨⟨a,b⟩,c⟩,d⟩,e⟩,f⟩
  exact⟨⟨⟨⟨⟨⟨⟨⟨⟨⟨⟨⟨a,b⟩,c⟩,by omega⟩,by omega⟩,by omega⟩,by omega⟩,by omega⟩,by omega⟩,by omega⟩,by omega⟩,by omega⟩,by omega⟩
 ·rintro⟨⟨⟨⟨⟨⟨⟨⟨⟨⟨⟨⟨a,b⟩,c⟩,d⟩,e⟩,f⟩,g⟩,h⟩,i⟩,j⟩,k⟩,l⟩,m⟩
  exact⟨⟨⟨⟨⟨a,b⟩,c⟩,by omega⟩,by omega⟩,by omega⟩
theorem cells8 {W w:World} {a0 a1 a2 a3 a4 a5 a6 a7:Value} {t:TypeId} (h:(W.alloc (.cells #[a0,a1,a2,a3,a4,a5,a6,a7] t)).grownBy w none) :
  w.cell? ⟨W.heap.size,0,none⟩=some a0∧w.cell? ⟨W.heap.size,1,none⟩=some a1∧w.cell? ⟨W.heap.size,2,none⟩=some a2∧w.cell? ⟨W.heap.size,3,none⟩=some a3∧w.cell? ⟨W.heap.size,4,none⟩=some a4∧w.cell? ⟨W.heap.size,5,none⟩=some a5∧w.cell? ⟨W.heap.size,6,none⟩=some a6∧w.cell? ⟨W.heap.size,7,none⟩=some a7:=by
 have e:=(h.block W.heap.size (by simp) (by simp)).trans (heap_alloc_new W _)
 refine⟨?_,?_,?_,?_,?_,?_,?_,?_⟩ <;> simp[World.cell?,e]
set_option maxHeartbeats 4000000 in
set_option maxRecDepth 100000 in
theorem rmay_any (c:Cmd) (hk:(c.key.size:Int)≤9223372036854775807) (W:World):Calls Tryz.prog 11 #[encCmd c] W fun e w'=>e = .returned (.bool (mayB c))∧W.grownBy w' none:=by
 obtain⟨kind,node,client,inc,req,ver,key,code⟩:=c
 simp only at hk
 have hm:=may_eq kind node client inc req ver code key
 have hbare:=fun h1 h7 W=>rbare_any ⟨kind,node,client,inc,req,ver,key,code⟩ h1 h7 W
 generalize hE:decide ((⟨kind,node,client,inc,req,ver,key,code⟩:Cmd)=bareC ⟨kind,node,client,inc,req,ver,key,code⟩)=E at hm hbare
 clear hE
 have HB:Hid (1≤kind→kind≤7→∀W,Calls Tryz.prog 46 #[(.agg #[.int .u8 kind,.int .i64 node,.int .i64 client,.int .i64 inc,.int .i64 req,.int .i64 ver,.string key,.int .i64 code]:Value)] W fun e w'=>e = .returned (.bool E)∧W.grownBy w' none):=hbare
 clear hbare
 have L1:=Lib.hid (rlong inc)
 have L2:=Lib.hid (rlong req)
 have L3:=Lib.hid (rlong ver)
 generalize rlongB inc=B1 at *
 generalize rlongB req=B2 at *
 generalize rlongB ver=B3 at *
 have HM:=Lib.hid hm
 clear hm
 simp only[encCmd]
 go_enter Tryz.func11,Tryz.ntmps11
 go_wp2_with (first
  | (go_at_call 46;refine(HB.out (by assumption) (by assumption) _).mono ?_;rintro e w1 ⟨rfl,hg⟩;obtain⟨d0,d1,d2,d3,d4,d5,d6,d7⟩:=cells8 hg;have HG:=Lib.hid hg;clear hg)
  | (go_at_call 47;(first|refine(L1.out _).mono ?_|refine(L2.out _).mono ?_|refine(L3.out _).mono ?_);rintro e w2 ⟨rfl,rfl⟩))
 all_goals
  go_ret
  refine⟨ret_bool ?_,?_⟩
  ·rw[HM.out];simp[*] <;> intros <;> omega
  ·first|exact World.grownBy_alloc W _ none|exact grown_trans (World.grownBy_alloc W _ none) HG.out
end Go.Proofs.YtjfelfjobeeenaaGreat
