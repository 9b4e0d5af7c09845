/- Bytes: the walk. Conditions: none, or as the theorems say. -/
import Derived.Test.YtjfelfjobeeenaaGreatN28
import Derived.Test.YtjfelfjobeeenaaGreatN20
import Derived.Test.YtjfelfjobeeenaaGreatN6
import Derived.Test.YtjfelfjobeeenaaGreatN17
namespace Go.Proofs.YtjfelfjobeeenaaGreat
set_option maxHeartbeats 200000000
set_option linter.unusedVariables false
set_option linter.unusedSimpArgs false
open Go.RowKit Go.Sf Go.Shelf Go.Maps
def qa (T:Tab):List Int:=e2 T.zv0.length++e2 T.w++e8 T.offers++e8 T.next++T.zv0.flatMap e8++Qd T.calls++Xv T.values++Vw T.pending++jf T.holds++jf T.zv2
structure zd1 (T:Tab):Prop where
 ll:T.zv0.length≤1000000
 ck:∀p∈T.calls,(Lit.int .i64 p.1).wf=true
 cl:T.calls.length≤1000000
 vk:∀p∈T.values,p.1.size≤maxLen
 vl:T.values.length≤1000000
 pl:T.pending.length≤1000000
 hl:T.holds.length≤1000000
 rl:T.zv2.length≤1000000
 hf:∀p∈T.holds,Xw p.2.mem
 rf:∀p∈T.zv2,Xw p.2.mem
 len:(qa T).length≤70000
theorem yh.turned {w W:World} {tb:Nat} {T:Tab} {own:Nat→Prop} (h:yh w tb T) (ht:yc (fun k=>¬own k) w W) (ho:∀b∈T.blocks tb,own b):yh W tb T:=
 h.same fun b hb=>ht.block b (h.lt b hb) (fun e=>e (ho b hb))
theorem zvr (w:World):WS (fun k=>k<w.heap.size) w.heap.size [] (w.alloc (.cells #[.slice none 0 0] 96)):=
 ⟨⟨.slice none 0 0,⟨heap_alloc_new w _,World.ownsRow_nil _ _ _ _⟩,fun g hg=>by simp[Value.ownBlock] at hg⟩,Nat.lt_irrefl _,fun g hg=>by simp;omega⟩
theorem WS.out_ws {own:Nat→Prop} {w:World} {wb:Nat} {l:List Int} (h:WS own wb l w) (hl:l.length≤100000):Calls Tryz.prog 53 #[.pointer (some ⟨wb,0,none⟩)] w fun e w'=>∃v',e = .returned v'∧w'.ownsRow w.heap.size 5 1 v' l.length (zu l)∧w.grownBy w' none:=by
 obtain⟨v,h1,_⟩:=h.ex
 exact zqf h1 (by omega)
theorem zld {w w':World} (h:yc (fun k=>¬k<w.heap.size) w w'):w.grownBy w' none:=⟨h.os,h.tape,h.output,h.size,fun k hk _=>h.block k hk (fun e=>e hk)⟩
section
variable {w : World} {tb : Nat} {T : Tab}
set_option maxRecDepth 100000 in
theorem zbt (h:yh w tb T) (hf:zd1 T):Calls Tryz.prog 40 #[.pointer (some ⟨tb,0,none⟩)] w fun e w'=>∃v,e = .returned v∧w'.ownsRow w.heap.size 5 1 v (qa T).length (zu (qa T))∧w.grownBy w' none:=by
 have HE:Hid (e2 T.zv0.length++e2 T.w++e8 T.offers++e8 T.next++T.zv0.flatMap e8++Qd T.calls++Xv T.values++Vw T.pending++jf T.holds++jf T.zv2=qa T):=(show _=_ from rfl)
 have hlen:=hf.len;rw[←HE.out] at hlen;have HF:=za hf;have HT0:=za h;have htb:=h.tlt;have HOB:Hid (∀b∈T.blocks tb,b<w.heap.size):=(show ∀_,_→_ from h.lt)
 have HS0:=za (zvr w);have HG0:=za (zc w (.cells #[.slice none 0 0] 96) none);clear h hf;have hll:(T.zv0.length:Int)≤1000000:=by have:=HF.out.ll;omega
 generalize henc:qa T=ET at *;simp only[List.length_append] at hlen;have HLN:=za hlen;clear hlen
 go_enter Tryz.func40,Tryz.ntmps40
 go_upto_region 4 with fail
 generalize w.alloc (.cells #[.slice none 0 0] 96)=w0 at *;have HU0:Hid (yc (fun k=>¬k<w.heap.size) w w0):=(show yc _ _ _ from xy HG0.out (yc.refl _ _))
 generalize hwb:w.heap.size=wb at *;have T0:=HT0.out.turned HU0.out HOB.out;have hwl:=HS0.out.wlt;have c3:=T0.c3;have HT1:=za T0;clear T0
 go_upto_region 5 with (go_at_call 50;refine(HS0.out.shortZ (by have:=HLN.out;simp only[List.length_nil];omega) T.zv0.length).mono ?_;rintro e w1 ⟨rfl,hq,ht⟩;have HS1:=za hq;have HU1:=za (HU0.out.trans ht);clear hq ht)
 clear c3 hwl;have T1:=HT0.out.turned HU1.out HOB.out;have hwl:=HS1.out.wlt;have c0:=T1.c0;have HT2:=za T1;clear T1
 go_upto_region 6 with (go_at_call 50;refine(HS1.out.shortZ (by have:=HLN.out;simp only[List.nil_append];omega) T.w).mono ?_;rintro e w2 ⟨rfl,hq,ht⟩;have HS2:=za hq;have HU2:=za (HU1.out.trans ht);clear hq ht)
 clear c0 hwl;have T2:=HT0.out.turned HU2.out HOB.out;have hwl:=HS2.out.wlt;have c1:=T2.c1;have HT3:=za T2;clear T2
 go_upto_region 7 with (go_at_call 51;refine(HS2.out.longZ (by have:=HLN.out;simp only[List.length_append,List.nil_append];omega) T.offers).mono ?_;rintro e w3 ⟨rfl,hq,ht⟩;have HS3:=za hq;have HU3:=za (HU2.out.trans ht);clear hq ht)
 clear c1 hwl;have T3:=HT0.out.turned HU3.out HOB.out;have hwl:=HS3.out.wlt;have c2:=T3.c2;have HT4:=za T3;clear T3
 go_upto_region 8 with (go_at_call 51;refine(HS3.out.longZ (by have:=HLN.out;simp only[List.length_append,List.nil_append];omega) T.next).mono ?_;rintro e w4 ⟨rfl,hq,ht⟩;have HS4:=za hq;have HU4:=za (HU3.out.trans ht);clear hq ht)
 clear c2 hwl;have T4:=HT0.out.turned HU4.out HOB.out;have c3:=T4.c3;have HT5:=za T4;have hwl:=HS4.out.wlt;clear T4
 go_upto_block 0 with fail
 clear c3 hwl
 go_cut [42] (fun _ wx=>WS (fun k=>k<wb) wb ((((([]++e2 T.zv0.length)++e2 T.w)++e8 T.offers)++e8 T.next)++T.zv0.flatMap e8) wx∧yc (fun k=>¬k<wb) w wx)
 case first=>
  go_wp2
  go_loopw [42] (fun x wr=>∃k:Nat,k≤T.zv0.length∧x = .int .i64 k∧WS (fun k=>k<wb) wb ((((([]++e2 T.zv0.length)++e2 T.w)++e8 T.offers)++e8 T.next)++(T.zv0.take k).flatMap e8) wr∧yc (fun k=>¬k<wb) w wr) (fun x _=>T.zv0.length-(intOf x).toNat)
  case atStart=>exact⟨0,Nat.zero_le _,rfl,by simpa using HS4.out,HU4.out⟩
  case round=>
   obtain⟨k,hk,rfl,hws,htu⟩:=hrel;have HW:=za hws;have HTU:=za htu
   by_cases hlt:k<T.zv0.length
   ·have TR:=HT0.out.turned htu HOB.out
    have cl:=TR.life k hlt;have hgl:T.zv0.getD k 0=T.zv0[k]:=by simp[List.getD,List.getElem?_eq_getElem hlt]
    rw[hgl] at cl;have HN:=za (jc e8 T.zv0 k hlt);have HLK:Hid (((((([]++e2 T.zv0.length)++e2 T.w)++e8 T.offers)++e8 T.next)++(T.zv0.take k).flatMap e8).length≤100000):=(show _≤_ from by
     have h1:=HLN.out;have h2:=Xn e8 T.zv0 k hlt;simp only[List.length_append,List.length_nil];omega)
    have hwl:=hws.wlt;clear hws htu hgl;have HTR:=za TR;clear TR;generalize T.zv0[k]=z at *
    go_wp2_with (go_at_call 51;refine(HW.out.longZ HLK.out z).mono ?_;rintro e wn ⟨rfl,hq,ht⟩;have HQ6:=za hq;have HT6:=za (HTU.out.trans ht);clear hq ht)
    go_roundw
    case rel=>exact⟨k+1,by omega,by go_num,by rw[HN.out,←List.append_assoc];exact HQ6.out,HT6.out⟩
    case measure=>simp[intOf];omega
   ·obtain rfl:k=T.zv0.length:=by omega
    rw[List.take_length] at HW;clear hws htu;go_wp2
    go_meet
    exact⟨HW.out,HTU.out⟩
 case rest=>
  obtain⟨hq,ht⟩:=hcut;have HS5:=za hq;have HU5:=za ht;clear hq ht HS0 HS1 HS2 HS3 HS4 HU0 HU1 HU2 HU3 HU4 HT1 HT2 HT3 HT4 HT5;generalize wc=w5 at *;have T5:=HT0.out.turned HU5.out HOB.out;have hwl:=HS5.out.wlt;have c4:=T5.c4;have HT6:=za T5;clear T5
  go_upto_region 14 with (go_at_call 84;refine(zsd HS5.out T.cb T.calls HT6.out.calls (HOB.out T.cb (by simp[Tab.blocks])) HF.out.ck HF.out.cl (by have:=HLN.out;simp only[List.length_append,List.nil_append];omega)).mono ?_;rintro e w6 ⟨rfl,hq,ht⟩;have HS6:=za hq;have HU6:=za (HU5.out.trans ht);clear hq ht)
  clear c4 hwl;have T6:=HT0.out.turned HU6.out HOB.out;have hwl:=HS6.out.wlt;have c5:=T6.c5;have HT7:=za T6;clear T6
  go_upto_region 15 with (go_at_call 88;refine(zsf HS6.out T.vb T.values HT7.out.values (HOB.out T.vb (by simp[Tab.blocks])) HF.out.vk HF.out.vl (by have:=HLN.out;simp only[List.length_append,List.nil_append];omega)).mono ?_;rintro e w7 ⟨rfl,hq,ht⟩;have HS7:=za hq;have HU7:=za (HU6.out.trans ht);clear hq ht)
  clear c5 hwl;have T7:=HT0.out.turned HU7.out HOB.out;have hwl:=HS7.out.wlt;have c6:=T7.c6;have HT8:=za T7;clear T7
  go_upto_region 16 with (go_at_call 92;refine(zse HS7.out T.pb T.pending HT8.out.pending (HOB.out T.pb (by simp[Tab.blocks])) HF.out.pl (by have:=HLN.out;simp only[List.length_append,List.nil_append];omega)).mono ?_;rintro e w8 ⟨rfl,hq,ht⟩;have HS8:=za hq;have HU8:=za (HU7.out.trans ht);clear hq ht)
  clear c6 hwl;have T8:=HT0.out.turned HU8.out HOB.out;have hwl:=HS8.out.wlt;have c7:=T8.c7;have HT9:=za T8;clear T8
  go_upto_region 17 with (go_at_call 94;refine(zjh HS8.out T.hb T.holds HT9.out.holds (HOB.out T.hb (by simp[Tab.blocks])) (fun p hp=>⟨HT9.out.hsets p hp,HOB.out p.2.blk (by simp only[Tab.blocks,List.mem_cons,List.mem_append,List.mem_map];exact Or.inr (Or.inr (Or.inr (Or.inr (Or.inr (Or.inr (Or.inr (Or.inl ⟨p,hp,rfl⟩)))))))),HF.out.hf p hp⟩) HF.out.hl (by have:=HLN.out;simp only[List.length_append,List.nil_append];omega)).mono ?_;rintro e w9 ⟨rfl,hq,ht⟩;have HS9:=za hq;have HU9:=za (HU8.out.trans ht);clear hq ht)
  clear c7 hwl;have T9:=HT0.out.turned HU9.out HOB.out;have hwl:=HS9.out.wlt;have c8:=T9.c8;have HT10:=za T9;clear T9
  go_upto_region 18 with (go_at_call 94;refine(zjh HS9.out T.rb T.zv2 HT10.out.zv2 (HOB.out T.rb (by simp[Tab.blocks])) (fun p hp=>⟨HT10.out.rsets p hp,HOB.out p.2.blk (by simp only[Tab.blocks,List.mem_cons,List.mem_append,List.mem_map];exact Or.inr (Or.inr (Or.inr (Or.inr (Or.inr (Or.inr (Or.inr (Or.inr ⟨p,hp,rfl⟩)))))))),HF.out.rf p hp⟩) HF.out.rl (by have:=HLN.out;simp only[List.length_append,List.nil_append];omega)).mono ?_;rintro e w10 ⟨rfl,hq,ht⟩;have HS10:=za hq;have HU10:=za (HU9.out.trans ht);clear hq ht)
  clear c8 hwl;have hwl:=HS10.out.wlt
  go_wp2_with (go_at_call 53;refine(HS10.out.out_ws (by have:=HLN.out;simp only[List.length_append,List.nil_append];omega)).mono ?_;rintro e w11 ⟨v,rfl,hv,hg⟩;have HV:=za hv;have HG:=za hg;clear hv hg)
  go_ret
  have hge:w.grownBy w10 none:=zld (by have:=HU10.out;rw[←hwb] at this;exact this)
  refine⟨v,rfl,?_,ze hge HG.out⟩;have h1:=Vk HV.out hge.size;rw[←HE.out];rw[List.nil_append] at h1
  exact h1
end
open Go.RowKit Go.Sf
def RTwo {α:Type} (B:Nat) (w:World) (rb:Nat) (o:Option (α × List Int)) (enc:α→Value) (e:Ending) (w':World):Prop:=
 yc (fun k=>k=rb) w w'∧((∃x t,o=some (x,t)∧e = .returned (enc x)∧Rd B w' rb t∧BL t)∨(o=none∧e=xh))
def Ue (l:List Int):Option (Bool × List Int):=(rd 1 l).bind fun p=>if p.1≤1 then some (decide (p.1=1),p.2) else none
def Ql (l:List Int):Option (ID × List Int):=(rdT l).bind fun p=>(rd 8 p.2).bind fun q=>some (⟨p.1,s64 q.1⟩,q.2)
section
variable {B : Nat} {w : World} {rb : Nat} {l : List Int}
theorem za0 {n x:Nat} {l t:List Int} (hb:BL l) (h:rd n l=some (x,t)):x<256 ^ n:=(xz hb h).2.1
theorem Rd.turn {w':World} (h:Rd B w rb l) (ht:yc (fun k=>¬k<B∧k≠rb) w w') (hB:B≤w.heap.size) (hrb:rb<w.heap.size):Rd B w' rb l:=by
 obtain⟨v,hb,hv⟩:=h.ex
 exact⟨h.le,v,(ht.block rb hrb (fun e=>e.2 rfl)).trans hb,hv.turn fun k hk=>ht.block k (by omega) (fun e=>e.1 hk)⟩
theorem Ub {x:Nat} (h:x<9223372036854775808):s64 x=(x:Int):=by rw[s64,if_pos h]
theorem Yw (h:Rd B w rb l) (hB:B≤w.heap.size) (hl:BL l) (n:Nat) (hn:n≤8):Calls Tryz.prog 57 #[.pointer (some ⟨rb,0,none⟩),.int .i64 n] w (RTwo B w rb (rd n l) (fun x=>.int .i64 (s64 x))):=by
 refine(zbf h hB hl n hn).mono ?_;rintro e w1 ⟨ht,hm⟩;refine⟨ht,?_⟩
 cases hr:rd n l with
 | none=>rw[hr] at hm;exact Or.inr ⟨rfl,hm⟩
 | some p=>
  obtain⟨x,t⟩:=p;rw[hr] at hm;obtain⟨⟨v,rfl,rfl⟩,hd⟩:=hm
  exact Or.inl ⟨x,t,rfl,rfl,hd,(xz hl hr).2.2⟩
theorem zvg (h:Rd B w rb l) (hB:B≤w.heap.size) (hl:BL l):Calls Tryz.prog 58 #[.pointer (some ⟨rb,0,none⟩)] w (RTwo B w rb (rdT l) Value.string):=by
 refine(zju h hB hl).mono ?_;rintro e w1 ⟨ht,hm⟩;refine⟨ht,?_⟩
 cases hr:rdT l with
 | none=>rw[hr] at hm;exact Or.inr ⟨rfl,hm⟩
 | some p=>
  obtain⟨x,t⟩:=p;rw[hr] at hm;obtain⟨⟨v,rfl,rfl⟩,hd⟩:=hm
  exact Or.inl ⟨x,t,rfl,rfl,hd,(zbj hl hr).2.2⟩
set_option maxRecDepth 100000 in
theorem bit_two (h:Rd B w rb l) (hB:B≤w.heap.size) (hl:BL l):Calls Tryz.prog 97 #[.pointer (some ⟨rb,0,none⟩)] w (RTwo B w rb (Ue l) Value.bool):=by
 have HN:=za (Yw h hB hl 1 (by omega))
 have HL:=za hl;clear h hl
 go_enter Tryz.func97,Tryz.ntmps97
 go_wp2_with (first
  | (go_at_call 57;refine HN.out.mono ?_;rintro e w1 ⟨ht,hq⟩;have HT:=za ht;clear ht;rcases hq with ⟨x,t,hr,rfl,hd,hb⟩|⟨hr,rfl⟩ <;> first
   | (have HR:=za hr;have HD:=za (And.intro hd hb);have hx:=za0 HL.out hr;(try dsimp only);rw[Ub (by omega)];clear hr hd hb;rcases(show x=0∨x=1∨1<x from by omega) with rfl|rfl|h1)
   | (simp only[xh];have HR:=za hr;clear hr))
  | (go_at_call 59;first|(refine(xu _).mono ?_;rintro e w2 ⟨rfl,rfl⟩)|(rw[show decide ((x:Int)≤1)=false from by simp;omega];refine(yt _).mono ?_;rintro e w2 ⟨rfl,rfl⟩;simp only[xh])))
 ·go_ret
  exact⟨HT.out,Or.inl ⟨false,t,by simp[Ue,HR.out],rfl,HD.out.1,HD.out.2⟩⟩
 ·go_ret
  exact⟨HT.out,Or.inl ⟨true,t,by simp[Ue,HR.out],rfl,HD.out.1,HD.out.2⟩⟩
 ·exact⟨rfl,HT.out,Or.inr ⟨by rw[Ue,HR.out];simp only[Option.bind_some];rw[if_neg (by omega)],rfl⟩⟩
 ·exact⟨rfl,HT.out,Or.inr ⟨by simp[Ue,HR.out],rfl⟩⟩
theorem id_box {W w1 w2:World} {g:Nat} {a b:Value} {T:TypeId} (h:W.heap[g]? = some (.cells #[a,b] T (0,0))) (hrb:rb<g) (hg:w.grownBy W none) (h1:yc (fun k=>k=rb) W w1) (h2:yc (fun k=>k=rb) w1 w2):w2.heap[g]? = some (.cells #[a,b] T (0,0))∧w2.cell? ⟨g,0,none⟩=some a∧w2.cell? ⟨g,1,none⟩=some b∧w2.frozen? ⟨g,0,none⟩=false∧w2.frozen? ⟨g,1,none⟩=false:=by
 have hl:=(Array.getElem?_eq_some_iff.1 h).1;have e:w2.heap[g]? = some (.cells #[a,b] T (0,0)):=((h1.trans h2).block g hl (show ¬g=rb by omega)).trans h
 exact⟨e,by simp[World.cell?,e],by simp[World.cell?,e],by simp[World.frozen?,e],by simp[World.frozen?,e]⟩
theorem zvk {bs:Nat→Prop} {a b c:World} (hrb:rb<a.heap.size) (h:yc bs a b) (g:yc (fun k=>k=a.heap.size) b c):yc bs a c:=
 ⟨g.os.trans h.os,g.tape.trans h.tape,g.output.trans h.output,Nat.le_trans h.size g.size,fun k hk hn=>(g.block k (Nat.lt_of_lt_of_le hk h.size) (show ¬k=a.heap.size by omega)).trans (h.block k hk hn)⟩
theorem id_end {w2:World} {g:Nat} {a b:Value} {T:TypeId} {t:List Int} (h:w2.heap[g]? = some (.cells #[a,b] T (0,0))) (x y:Value) (hd:Rd B w2 rb t) (hne:rb≠g) (hB:B≤g) :
  (((w2.setCell ⟨g,0,none⟩ x).setCell ⟨g,1,none⟩ y).cell? ⟨g,0,none⟩=some x∧((w2.setCell ⟨g,0,none⟩ x).setCell ⟨g,1,none⟩ y).cell? ⟨g,1,none⟩=some y∧Rd B ((w2.setCell ⟨g,0,none⟩ x).setCell ⟨g,1,none⟩ y) rb t∧yc (fun k=>k=g) w2 ((w2.setCell ⟨g,0,none⟩ x).setCell ⟨g,1,none⟩ y)):=by
 have ht:=(vf w2 g 0 x).trans (vf _ g 1 y);obtain⟨v,hb,hv⟩:=hd.ex;have hlb:=(Array.getElem?_eq_some_iff.1 hb).1;refine⟨by simp[World.setCell,World.cell?,Array.getElem?_modify,h],by simp[World.setCell,World.cell?,Array.getElem?_modify,h],⟨hd.le,v,(ht.block rb hlb hne).trans hb,hv.turn fun k hk=>?_⟩,ht⟩
 exact(Below.heap_setCell _ _ _ k (show k≠g by omega)).trans (Below.heap_setCell _ _ _ k (show k≠g by omega))
set_option maxRecDepth 100000 in
theorem ztt (h:Rd B w rb l) (hB:B≤w.heap.size) (hl:BL l):Calls Tryz.prog 98 #[.pointer (some ⟨rb,0,none⟩)] w (RTwo B w rb (Ql l) zx):=by
 have hrb:rb<w.heap.size:=by obtain⟨v,hb,-⟩:=h.ex;exact(Array.getElem?_eq_some_iff.1 hb).1
 generalize hW:w.alloc (.cells #[.string ⟨#[]⟩,.int .i64 0] 54)=W;have hg:w.grownBy W none:=hW ▸ zc w _ none;have hn:W.heap[w.heap.size]? = some (.cells #[.string ⟨#[]⟩,.int .i64 0] 54 (0,0)):=hW ▸ heap_alloc_new w _;have hd:Rd B W rb l:=h.turn (xy hg (yc.refl _ _)) hB hrb;have HT0:Hid (yc (fun k=>k=rb) w W):=(show yc _ _ _ from xy hg (yc.refl _ _))
 have HG:=za hg;have HR:=za hd;have HL:=za hl;have HNW:=za hn;have HRB:=za hrb;have HRG:=za hB;have HBW:=za (Nat.le_trans hB hg.size);clear h hd hn hg hl hB hrb
 go_enter Tryz.func98,Tryz.ntmps98
 go_wp2_with (first
  | (go_at_call 58;(try rw[hW]);refine(zvg HR.out HBW.out HL.out).mono ?_;rintro e w1 ⟨ht,hq⟩;rcases hq with ⟨k,t1,hr,rfl,hd,hb⟩|⟨hr,rfl⟩ <;> first
   | (have HD1:=za (And.intro hd hb);have HX1:=za hr;have HT1:=za ht;clear hr hd hb ht)
   | (simp only[xh];have HX1:=za hr;have HT1:=za ht;clear hr ht))
  | (go_at_call 57;refine(Yw HD1.out.1 (Nat.le_trans HBW.out HT1.out.size) HD1.out.2 8 (by omega)).mono ?_;rintro e w2 ⟨ht,hq⟩;rcases hq with ⟨x,t2,hr,rfl,hd,hb⟩|⟨hr,rfl⟩ <;> first
   | (have hnb:=id_box HNW.out HRB.out HG.out HT1.out ht;obtain⟨hc0,hc1,hf0,hf1⟩:=hnb.2;have HD2:=za (And.intro hd hb);have HX2:=za hr;have HT2:=za ht;clear hr hd hb ht)
   | (simp only[xh];have HX2:=za hr;have HT2:=za ht;clear hr ht)))
 ·have h2:=id_end hnb.1 (.string k) (.int .i64 (s64 x)) HD2.out.1 (show rb≠w.heap.size by have:=HRB.out;omega) (show B≤w.heap.size from HRG.out)
  refine bodyPost_ret (v:=.agg #[.string k,.int .i64 (s64 x)]) (by simp[results,Tryz.results98,go_sem,h2.1,h2.2.1]) rfl ⟨zvk HRB.out ((HT0.out.trans HT1.out).trans HT2.out) h2.2.2.2,Or.inl ⟨⟨k,s64 x⟩,t2,by simp[Ql,HX1.out,HX2.out],rfl,h2.2.2.1,HD2.out.2⟩⟩
 ·exact⟨rfl,(HT0.out.trans HT1.out).trans HT2.out,Or.inr ⟨by simp[Ql,HX1.out,HX2.out],rfl⟩⟩
 ·exact⟨rfl,HT0.out.trans HT1.out,Or.inr ⟨by simp[Ql,HX1.out],rfl⟩⟩
end
section
variable {W : World}
theorem uy.cells {B:Nat} {v:Value} {l:List Int} (h:uy B W v l):∃p cap,v = .slice p l.length cap∧l.length≤cap∧cap≤9223372036854775807∧∀(k:Nat) (hk:k<l.length),∃a,p=some a∧W.cell? (a.add k)=some (.int .u8 l[k]):=by
 obtain⟨p,cap,rfl,h1,h2,h3⟩:=h.ex;refine⟨p,cap,rfl,h1,h2,fun k hk=>?_⟩
 rcases h3 with rfl|⟨a,rfl,_,h4⟩
 ·simp at hk
 ·exact⟨a,rfl,h4 k _ (by rw[zu,List.getElem?_map,List.getElem?_eq_getElem hk];rfl)⟩
set_option maxRecDepth 100000 in
theorem zok {va vb:Value} {la lb:List Int} {B B':Nat} (ha:uy B W va la) (hb:uy B' W vb lb) (hl:la.length=lb.length):Calls Tryz.prog 100 #[va,vb] W fun e w'=>e = .returned (.bool (decide (la=lb)))∧W.grownBy w' none:=by
 obtain⟨pa,ca,rfl,hac,ham,ha⟩:=ha.cells;obtain⟨pb,cb,rfl,hbc,hbm,hb⟩:=hb.cells;have HA:=za ha;have HB:=za hb;have HL:=za hl;have hca:(la.length:Int)≤9223372036854775807:=by omega
 have hbl:(lb.length:Int)=la.length:=by omega
 rw[←hl];clear ha hb hbl hl
 go_enter Tryz.func100,Tryz.ntmps100
 go_wp2
 go_loopw [13] (fun x wr=>∃k:Nat,k≤la.length∧x = .int .i64 k∧la.take k=lb.take k∧W.grownBy wr none) (fun x _=>la.length-(intOf x).toNat)
 case atStart=>exact⟨0,Nat.zero_le _,rfl,by simp,zd _⟩
 case round=>
  obtain⟨k,hk,rfl,heq,hg⟩:=hrel;have HG:=za hg;have HE:=za heq
  by_cases hlt:k<la.length
  ·have hlt2:k<lb.length:=by have:=HL.out;omega
   obtain⟨ga,rfl,ea⟩:=HA.out k hlt;obtain⟨gb,rfl,eb⟩:=HB.out k hlt2;have fa:wr.cell? (ga.add k)=some (.int .u8 la[k]):=hg.cell ea (by simp)
   have fb:wr.cell? (gb.add k)=some (.int .u8 lb[k]):=hg.cell eb (by simp)
   have HX:Hid (la[k]=lb[k]→la.take (k+1)=lb.take (k+1)):=(show _→_ from fun e=>by rw[List.take_succ_eq_append_getElem hlt,List.take_succ_eq_append_getElem hlt2,heq,e])
   have HY:Hid (la[k]≠lb[k]→decide (la=lb)=false):=(show _→_ from fun e=>by
    apply decide_eq_false
    intro e2;subst e2
    exact e rfl)
   clear ea eb hg heq;generalize la[k]=x at *;generalize lb[k]=y at *
   by_cases hxy:x=y
   ·subst hxy
    go_wp2
    go_quiet (fail)
    go_wp2
    go_roundw
    case rel=>exact⟨k+1,by omega,by go_num,HX.out (by first|rfl|trivial),ze HG.out (zj _ _)⟩
    case measure=>simp[intOf];omega
   ·go_wp2
    go_quiet (fail)
    go_wp2
    go_ret
    exact⟨by rw[HY.out hxy];rfl,ze HG.out (zj _ _)⟩
  ·obtain rfl:k=la.length:=by omega
   clear hg heq;go_wp2
   go_ret
   refine⟨?_,HG.out⟩;have h1:=HE.out;rw[List.take_length] at h1;rw[show la=lb from h1.trans (List.take_of_length_le (by have:=HL.out;omega))]
   simp
set_option maxRecDepth 100000 in
theorem zim {va vb:Value} {la lb:List Int} {B B':Nat} (ha:uy B W va la) (hb:uy B' W vb lb):Calls Tryz.prog 100 #[va,vb] W fun e w'=>e = .returned (.bool (decide (la=lb)))∧W.grownBy w' none:=by
 by_cases hl:la.length=lb.length
 ·exact zok ha hb hl
 ·obtain⟨pa,ca,rfl,hac,ham,-⟩:=ha.cells
  obtain⟨pb,cb,rfl,hbc,hbm,-⟩:=hb.cells;have HE:Hid (decide (la=lb)=false):=(show _=_ from decide_eq_false (fun e=>hl (by rw[e])))
  have hne:¬((la.length:Int)=(lb.length:Int)):=by omega
  clear ha hb
  go_enter Tryz.func100,Tryz.ntmps100
  go_wp2
  go_ret
  exact⟨by rw[HE.out];rfl,zd _⟩
end
def zfk (n:Int) (i:ID) (m:List (ID × ye)) (l:List Int):Option (List (ID × ye) × List Int):=(rd 2 l).bind fun p=>if (p.1:Int)<n then some (ql m i (fun x=>um x p.1),p.2) else none
def Zs (n:Int) (i:ID):Nat→List (ID × ye)→List Int→Option (List (ID × ye) × List Int)
 | 0,m,l=>some (m,l)
 | k+1,m,l=>(zfk n i m l).bind fun p=>Zs n i k p.1 p.2
def zaz (n:Int) (m:List (ID × ye)) (l:List Int):Option (List (ID × ye) × List Int):=(Ql l).bind fun i=>(rd 2 i.2).bind fun c=>Zs n i.1 c.1 (ym m i.1 ⟨0,[]⟩) c.2
def Ym (n:Int):Nat→List (ID × ye)→List Int→Option (List (ID × ye) × List Int)
 | 0,m,l=>some (m,l)
 | k+1,m,l=>(zaz n m l).bind fun p=>Ym n k p.1 p.2
def Xq (n:Int) (l:List Int):Option (List (ID × ye) × List Int):=(rd 4 l).bind fun c=>Ym n c.1 [] c.2
theorem zo0 (M:List (ID × ye)) (i:ID) (s:ye):vp (ym M i s)=ym (vp M) i ⟨0,s.mem⟩:=by
 unfold vp
 induction M with
 | nil=>rfl
 | cons p r ih=>
  simp only[List.map_cons,ym]
  by_cases e:p.1=i
  ·rw[if_pos e,if_pos e];rfl
  ·rw[if_neg e,if_neg e,List.map_cons,ih]
theorem zdj {K V:Type} [DecidableEq K] {M:List (K × V)} {i:K} {s:V}:∀{x:K × V},x∈ym M i s→x∈M∨x=(i,s):=by
 induction M with
 | nil=>intro x hx;simp[ym] at hx;exact Or.inr hx
 | cons p r ih=>
  intro x hx;rw[ym] at hx
  by_cases e:p.1=i
  ·rw[if_pos e] at hx
   rcases List.mem_cons.1 hx with hx|hx
   ·exact Or.inr hx
   ·exact Or.inl (List.mem_cons_of_mem _ hx)
  ·rw[if_neg e] at hx
   rcases List.mem_cons.1 hx with hx|hx
   ·exact Or.inl (hx ▸ List.mem_cons_self)
   ·rcases ih hx with h|h
    ·exact Or.inl (List.mem_cons_of_mem _ h)
    ·exact Or.inr h
theorem zo3 {M:List (ID × ye)} {i:ID} {nb:Nat} {l:List Int}:(M.map (·.2.blk)).Nodup→nb ∉ M.map (·.2.blk)→((ym M i ⟨nb,l⟩).map (·.2.blk)).Nodup:=by
 induction M with
 | nil=>intro _ _;simp[ym]
 | cons p r ih=>
  intro h1 h2;rw[ym];simp only[List.map_cons,List.nodup_cons,List.mem_cons,not_or] at h1 h2
  by_cases e:p.1=i
  ·rw[if_pos e,List.map_cons,List.nodup_cons]
   exact⟨h2.2,h1.2⟩
  ·rw[if_neg e,List.map_cons,List.nodup_cons]
   refine⟨fun hm=>?_,ih h1.2 h2.2⟩
   obtain⟨x,hx,hxe⟩:=List.mem_map.1 hm
   rcases zdj hx with h|rfl
   ·exact h1.1 (List.mem_map.2 ⟨x,h,hxe⟩)
   ·exact h2.1 hxe
structure NM (bs:Nat→Prop) (b:Nat) (w:World) (M:List (ID × ye)):Prop where
 map:zw w b zx yw M
 sets:∀x∈M,qr w x.2
 nd:(b :: M.map (·.2.blk)).Nodup
 bl:∀x∈M,bs x.2.blk
def NS (bs:Nat→Prop) (b:Nat) (w:World) (m:List (ID × ye)):Prop:=∃M,vp M=m∧NM bs b w M
section
variable {bs : Nat → Prop} {b : Nat} {w w' : World} {M m : List (ID × ye)}
theorem NS.start (h:zw w b zx yw []):NS bs b w []:=⟨[],rfl,⟨h,(fun x hx=>by cases hx),(by simp),(fun x hx=>by cases hx)⟩⟩
theorem NM.same (h:NM bs b w M) (hs:∀k,k=b∨bs k→k<w.heap.size→w'.heap[k]? = w.heap[k]?):NM bs b w' M:=
 ⟨h.map.same (hs b (Or.inl rfl) h.map.lt),fun x hx=>zw.same (h.sets x hx) (hs _ (Or.inr (h.bl x hx)) (zw.lt (h.sets x hx))),h.nd,h.bl⟩
theorem NS.same (h:NS bs b w m) (hs:∀k,k=b∨bs k→k<w.heap.size→w'.heap[k]? = w.heap[k]?):NS bs b w' m:=by
 obtain⟨M,e,hM⟩:=h
 exact⟨M,e,hM.same hs⟩
theorem NS.more {cs:Nat→Prop} (h:NS bs b w m) (hs:∀k,k<w.heap.size→bs k→cs k):NS cs b w m:=by
 obtain⟨M,e,hM⟩:=h
 exact⟨M,e,hM.map,hM.sets,hM.nd,fun x hx=>hs _ (zw.lt (hM.sets x hx)) (hM.bl x hx)⟩
theorem NM.made (h:NM bs b w M) {i:ID} {nb:Nat} (hb:bs nb) (hn:w.heap.size≤nb) (hm:zw w' b zx yw (ym M i ⟨nb,[]⟩)) (hs:qr w' ⟨nb,[]⟩) (hg:w.grownBy w' (some b)):NM bs b w' (ym M i ⟨nb,[]⟩):=by
 have nd:=h.nd;rw[List.nodup_cons] at nd;have hbl:=h.map.lt;refine⟨hm,fun x hx=>?_,?_,fun x hx=>?_⟩
 ·rcases zdj hx with hx|rfl
  ·exact zw.kept (h.sets x hx) hg (fun e=>nd.1 (by cases e;exact List.mem_map.2 ⟨x,hx,rfl⟩))
  ·exact hs
 ·rw[List.nodup_cons]
  refine⟨fun hm=>?_,zo3 nd.2 fun hm=>?_⟩
  ·obtain⟨x,hx,e⟩:=List.mem_map.1 hm
   rcases zdj hx with hx|rfl
   ·exact nd.1 (List.mem_map.2 ⟨x,hx,e⟩)
   ·have:nb=b:=e
    omega
  ·obtain⟨x,hx,e⟩:=List.mem_map.1 hm
   have h1:=zw.lt (h.sets x hx);have:x.2.blk=nb:=e;omega
 ·rcases zdj hx with hx|rfl
  ·exact h.bl x hx
  ·exact hb
theorem NM.put (h:NM bs b w M) {i:ID} {s:ye} (hs:zt M i=some s) (f:List Int→List Int) (hm:qr w' ⟨s.blk,f s.mem⟩) (hg:w.grownBy w' (some s.blk)):NM bs b w' (ql M i f):=by
 have nd:=h.nd;rw[List.nodup_cons] at nd;have hmem:=yd hs;refine⟨ziz (h.map.kept hg (fun e=>nd.1 (by cases e;exact List.mem_map.2 ⟨_,hmem,rfl⟩))) i f,fun x hx=>?_,?_,fun x hx=>?_⟩
 ·obtain⟨y,hy,rfl⟩:=List.mem_map.1 hx
  by_cases e:y.1=i
  ·simp only[e,if_true]
   have h1:=vo h.map.nodup (k:=i) (v:=y.2) (by rw[←e];exact hy)
   rw[hs] at h1
   cases h1
   exact hm
  ·simp only[e,if_false]
   refine zw.kept (h.sets y hy) hg fun e2=>e ?_
   have h2:=zpv nd.2 hy hmem (by simpa using e2)
   rw[h2]
 ·rw[zb9];exact h.nd
 ·obtain⟨y,hy,rfl⟩:=List.mem_map.1 hx
  have h1:=h.bl y hy
  by_cases e:y.1=i
  ·simp only[e,if_true];exact h1
  ·simp only[e,if_false];exact h1
theorem zsl {m:List (ID × ye)} {i:ID} (f:List Int→List Int) (h:(zt m i).isSome=true):(zt (ql m i f) i).isSome=true:=by
 cases hq:zt (ql m i f) i with
 | some _=>rfl
 | none=>
  exfalso
  have h1:=jv.1 hq
  cases h2:zt m i with
  | none=>rw[h2] at h;cases h
  | some s=>
   have h3:=yd h2;have h4:i∈(ql m i f).map (·.1):=by rw[zet];exact List.mem_map.2 ⟨_,h3,rfl⟩
   obtain⟨x,hx,e⟩:=List.mem_map.1 h4
   exact h1 x hx e
theorem zsk {m:List (ID × ye)} {i:ID} {s:ye}:(zt (ym m i s) i).isSome=true:=by rw[Xo];rfl
end
end Go.Proofs.YtjfelfjobeeenaaGreat
