/- The reader's nodes: the walk, with the way out by a panic. Conditions: bytes that lie in memory; an empty map. From: its parser, plain; what it carries between two reads; the deferred call. Conditions: none. -/
import Derived.Test.YtjfelfjobeeenaaGreatP37
namespace Go.Proofs.YtjfelfjobeeenaaGreat
set_option linter.unusedVariables false
set_option linter.unusedSimpArgs false
open Go.RowKit Go.Sf
def NPost (B:Nat) (W:World) (rb b:Nat) (o:Option (List (ID × NSet) × List Int)) (e:Ending) (w':World):Prop:=
 Turn (fun k=>k=rb∨k=b) W w'∧((∃m t,o=some (m,t)∧e = .returned (.tuple #[])∧Rd B w' rb t∧BL t∧NS (fun k=>W.heap.size≤k) b w' m)∨(o=none∧e=thrown))
theorem Turn.wide {bs cs:Nat→Prop} {w w':World} (h:Turn bs w w') (hs:∀k,bs k→cs k):Turn cs w w':=
 ⟨h.os,h.tape,h.output,h.size,fun k hk hn=>h.block k hk fun e=>hn (hs k e)⟩
structure NR (B:Nat) (W:World) (rb b:Nat) (w:World) (m:List (ID × NSet)) (t:List Int):Prop where
 tu:Turn (fun k=>k=rb∨k=b) W w
 rd:Rd B w rb t
 bl:BL t
 ns:NS (fun k=>W.heap.size≤k) b w m
structure NI (B:Nat) (W:World) (rb b bx:Nat) (i:ID) (w:World) (m:List (ID × NSet)) (t:List Int):Prop where
 tu:Turn (fun k=>k=rb∨k=b) W w
 rd:Rd B w rb t
 bl:BL t
 ns:NS (fun k=>W.heap.size≤k∧k≠bx) b w m
 has:(mget m i).isSome=true
 box:w.heap[bx]? = some (.cells #[.string i.key,.int .i64 i.ver] 54 (0,0))
 new:W.heap.size≤bx
section
variable {B : Nat} {W w w' : World} {rb b bx : Nat} {m : List (ID × NSet)} {t t' : List Int} {i : ID}
theorem NI.read (h:NI B W rb b bx i w m t) (hrb:rb<W.heap.size) (hbr:b≠rb) (ht:Turn (fun k=>k=rb) w w') (hd:Rd B w' rb t') (hb:BL t'):NI B W rb b bx i w' m t':=by
 have h1:=h.new
 refine⟨h.tu.trans (ht.wide fun k e=>Or.inl e),hd,hb,h.ns.same fun k hk hl=>ht.block k hl ?_,h.has,(ht.block bx (Array.getElem?_eq_some_iff.1 h.box).1 (show ¬bx=rb by omega)).trans h.box,h1⟩
 rcases hk with rfl|hk
 ·exact hbr
 ·exact(show ¬k=rb by omega)
theorem NI.cells (h:NI B W rb b bx i w m t):w.cell? ⟨bx,0,none⟩=some (.string i.key)∧w.cell? ⟨bx,1,none⟩=some (.int .i64 i.ver):=by
 have e:=h.box
 exact⟨by simp[World.cell?,e],by simp[World.cell?,e]⟩
theorem NI.look (h:NI B W rb b bx i w m t):∃M s,nsets M=m∧NM (fun k=>W.heap.size≤k∧k≠bx) b w M∧mget M i=some s∧SetT w s:=by
 obtain⟨M,e,hM⟩:=h.ns
 have h1:=h.has
 rw[←e,mget_nsets] at h1
 cases h2:mget M i with
 | none=>rw[h2] at h1;cases h1
 | some s=>exact⟨M,s,e,hM,h2,hM.sets _ (mget_mem h2)⟩
theorem NI.put {M:List (ID × NSet)} {s:NSet} (h:NI B W rb b bx i w m t) (hrb:rb<W.heap.size) (hB:B≤W.heap.size) (e:nsets M=m) (hM:NM (fun k=>W.heap.size≤k∧k≠bx) b w M) (hs:mget M i=some s) (x:Int) (hm:SetT w' ⟨s.blk,sput s.mem x⟩) (hg:w.grownBy w' (some s.blk)):NI B W rb b bx i w' (smod m i fun l=>sput l x) t:=by
 have hb:W.heap.size≤s.blk∧s.blk≠bx:=hM.bl _ (mget_mem hs)
 have h1:=h.new
 have h3:=h.tu.size
 have hrd:=h.rd
 obtain⟨v,hv,hv2⟩:=hrd.ex
 refine⟨⟨hg.os.trans h.tu.os,hg.tape.trans h.tu.tape,hg.output.trans h.tu.output,Nat.le_trans h.tu.size hg.size,fun k hk hn=>(hg.block k (by omega) (fun e=>by cases e;exact absurd hb.1 (by omega))).trans (h.tu.block k hk hn)⟩,⟨hrd.le,v,(hg.block rb (by omega) (fun e=>by cases e;exact absurd hb.1 (by omega))).trans hv,hv2.turn fun k hk=>hg.block k (by omega) (fun e=>by cases e;exact absurd hb.1 (by omega))⟩,h.bl,⟨smod M i fun l=>sput l x,by rw[smod_nsets,e],hM.put hs (fun l=>sput l x) hm hg⟩,some_smod _ h.has,(hg.block bx (Array.getElem?_eq_some_iff.1 h.box).1 (fun e=>by cases e;exact hb.2 rfl)).trans h.box,h1⟩
theorem NI.done (h:NI B W rb b bx i w m t):NR B W rb b w m t:=⟨h.tu,h.rd,h.bl,h.ns.more fun k _ hk=>hk.1⟩
theorem NR.made {M:List (ID × NSet)} {w1 w2 w3:World} (h:NR B W rb b w m t) (hrb:rb<W.heap.size) (hbW:b<W.heap.size) (hB:B≤b) (hbr:b≠rb) (ht:Turn (fun k=>k=rb) w w1) (hd:Rd B w1 rb t') (hbl:BL t') (hb1:w2.heap[w1.heap.size]? = some (.cells #[.string i.key,.int .i64 i.ver] 54 (0,0))) (hg2:w1.grownBy w2 none) (hsz:w2.heap.size=w1.heap.size+1)
  (e:nsets M=m) (hM:NM (fun k=>W.heap.size≤k) b w M) (hm:MapT w3 b encID encSet (mput M i ⟨w2.heap.size,[]⟩)) (hg3:(w2.alloc (.map #[] 0)).grownBy w3 (some b)):NI B W rb b w1.heap.size i w3 (mput m i ⟨0,[]⟩) t':=by
 have hs1:=h.tu.size
 have hs2:=ht.size
 have hlt:=fun x hx=>MapT.lt (hM.sets x hx)
 have hM2:NM (fun k=>W.heap.size≤k∧k≠w1.heap.size) b w2 M:=by
  have hM1:NM (fun k=>W.heap.size≤k) b w2 M:=hM.same fun k hk hl=>(hg2.block k (by omega) (by simp)).trans (ht.block k hl (by rcases hk with rfl|hk;exact hbr;exact(show ¬k=rb by omega)))
  exact⟨hM1.map,hM1.sets,hM1.nd,fun x hx=>⟨hM1.bl x hx,by have:=hlt x hx;omega⟩⟩
 have hg:w2.grownBy w3 (some b):=(World.grownBy_alloc w2 (.map #[] 0) (some b)).andThen hg3 (fun j hj=>by cases hj;exact Or.inr rfl)
 have hset:SetT w3 ⟨w2.heap.size,[]⟩:=MapT.kept (mapT_made w2 (Value.int .i64) encUnit:MapT (w2.alloc (.map #[] 0)) w2.heap.size (Value.int .i64) encUnit ([]:List (Int × Unit))) hg3 (by simp;omega)
 obtain⟨v,hv,hv2⟩:=hd.ex
 refine⟨?_,?_,hbl,⟨_,by rw[mput_nsets,e],hM2.made ⟨by omega,by omega⟩ (Nat.le_refl _) hm hset hg⟩,some_mput,(hg.block w1.heap.size (by omega) (fun e=>by cases e;omega)).trans hb1,by omega⟩
 ·refine h.tu.trans ((ht.wide fun k e=>Or.inl e).trans ⟨hg.os.trans hg2.os,hg.tape.trans hg2.tape,hg.output.trans hg2.output,Nat.le_trans hg2.size hg.size,fun k hk hn=>(hg.block k (by omega) (fun e=>hn (Or.inr (by cases e;rfl)))).trans (hg2.block k hk (by simp))⟩)
 ·exact⟨hd.le,v,(hg.block rb (by omega) (fun e=>hbr (by cases e;rfl))).trans ((hg2.block rb (by omega) (by simp)).trans hv),hv2.turn fun k hk=>(hg.block k (by omega) (fun e=>by cases e;omega)).trans (hg2.block k (by omega) (by simp))⟩
theorem rdMems_step {n:Int} {c j x:Nat} (hj:j<c) (hr:rd 2 t=some (x,t')) (hx:(x:Int)<n):rdMems n i (c-j) m t=rdMems n i (c-(j+1)) (smod m i fun l=>sput l x) t':=by
 rw[show c-j=(c-(j+1))+1 by omega,rdMems,rdMem,hr]
 simp only[Option.bind_some,if_pos hx]
theorem rdMems_high {n:Int} {c j x:Nat} (hj:j<c) (hr:rd 2 t=some (x,t')) (hx:¬(x:Int)<n):rdMems n i (c-j) m t=none:=by
 rw[show c-j=(c-(j+1))+1 by omega,rdMems,rdMem,hr]
 simp only[Option.bind_some,if_neg hx,Option.bind_none]
theorem rdMems_none {n:Int} {c j:Nat} (hj:j<c) (hr:rd 2 t=none):rdMems n i (c-j) m t=none:=by
 rw[show c-j=(c-(j+1))+1 by omega,rdMems,rdMem,hr]
 rfl
theorem rdSets_step {n:Int} {c j x:Nat} {t2:List Int} (hj:j<c) (hr:rdID t=some (i,t')) (hx:rd 2 t'=some (x,t2)):rdSets n (c-j) m t=(rdMems n i x (mput m i ⟨0,[]⟩) t2).bind fun p=>rdSets n (c-(j+1)) p.1 p.2:=by
 rw[show c-j=(c-(j+1))+1 by omega,rdSets,rdSet,hr]
 simp only[Option.bind_some,hx]
theorem rdSets_none1 {n:Int} {c j:Nat} (hj:j<c) (hr:rdID t=none):rdSets n (c-j) m t=none:=by
 rw[show c-j=(c-(j+1))+1 by omega,rdSets,rdSet,hr]
 rfl
theorem rdSets_none2 {n:Int} {c j:Nat} (hj:j<c) (hr:rdID t=some (i,t')) (hx:rd 2 t'=none):rdSets n (c-j) m t=none:=by
 rw[show c-j=(c-(j+1))+1 by omega,rdSets,rdSet,hr]
 simp only[Option.bind_some,hx,Option.bind_none]
set_option maxHeartbeats 4000000 in
set_option maxRecDepth 100000 in
theorem nodes_two (h:Rd B W rb t) (hB:B≤b) (hbr:b≠rb) (hl:BL t) (n:Int) (hm:MapT W b encID encSet []):Calls Tryz.prog 99 #[.pointer (some ⟨rb,0,none⟩),.map (some b),.int .i64 n] W (NPost B W rb b (rdNodes n t)):=by
 have hbW:=hm.lt
 have hrb:rb<W.heap.size:=by obtain⟨v,hb,-⟩:=h.ex;exact(Array.getElem?_eq_some_iff.1 hb).1
 have HBB:=Lib.hid hB
 have HBR:=Lib.hid hbr
 have HRB:=Lib.hid hrb
 have HBW:=Lib.hid hbW
 have HL:=Lib.hid hl
 have HN0:=Lib.hid (number_two h (Nat.le_trans hB (Nat.le_of_lt hbW)) hl 4 (by omega))
 have HM0:=Lib.hid hm
 have hmm:=@run_makeMap Tryz.prog
 clear h hB hbr hrb hbW hl hm
 go_enter Tryz.func99,Tryz.ntmps99
 go_upto_block 0 with (go_at_call 57;refine HN0.out.mono ?_;rintro e w1 ⟨ht,⟨c,t1,hr,rfl,hd,hb⟩|⟨hr,rfl⟩⟩ <;> first
   | (have HR:=Lib.hid hr;have HD:=Lib.hid (And.intro hd hb);have HT:=Lib.hid ht;have hx:=rd_lt HL.out hr;(try dsimp only);rw[s64_sm (by omega)];clear hr hd hb ht)
   | (simp only[thrown];have HR:=Lib.hid hr;have HT:=Lib.hid ht;clear hr ht))
 case inr=>exact⟨rfl,HT.out.wide fun k e=>Or.inl e,Or.inr ⟨by rw[rdNodes,HR.out];rfl,rfl⟩⟩
 have HS0:Hid (NR B W rb b w1 [] t1):=(show NR _ _ _ _ _ _ _ from ⟨HT.out.wide fun k e=>Or.inl e,HD.out.1,HD.out.2,NS.start (HM0.out.same (HT.out.block b HBW.out HBR.out))⟩)
 have HP0:Hid (rdNodes n t=rdSets n (c-0) [] t1):=(show _=_ from by rw[rdNodes,HR.out];rfl)
 clear HT HD HR HM0 HN0 HL
 generalize rdNodes n t=RES at *
 have hc4:(c:Int)≤4294967296:=by omega
 clear hx
 go_wp2
 go_loopw [10] (fun x wr=>∃(j:Nat) (m':List (ID × NSet)) (t':List Int),j≤c∧x = .int .i64 j∧NR B W rb b wr m' t'∧RES=rdSets n (c-j) m' t') (fun x _=>c-(intOf x).toNat)
 case atStart=>exact⟨0,[],t1,Nat.zero_le _,rfl,HS0.out,HP0.out⟩
 case round=>
  clear HS0 HP0
  obtain⟨j,m',t',hj,rfl,hs,hp⟩:=hrel
  have HS:=Lib.hid hs
  have HP:=Lib.hid hp
  clear hs hp
  by_cases hlt:j<c
  ·have HJ:=Lib.hid hlt
   have HI:=Lib.hid (id_two HS.out.rd (Nat.le_trans HBB.out (Nat.le_trans (Nat.le_of_lt HBW.out) HS.out.tu.size)) HS.out.bl)
   go_upto_region 3 with (go_at_call 98;refine HI.out.mono ?_;rintro e w2 ⟨ht,⟨i,t2,hr,rfl,hd,hb⟩|⟨hr,rfl⟩⟩ <;> first
    | (have HR2:=Lib.hid hr;have HD2:=Lib.hid (And.intro hd hb);have HT2:=Lib.hid ht;obtain⟨ik,iv⟩:=i;(try dsimp only);simp only[encID];clear hr hd hb ht)
    | (simp only[thrown];have HR2:=Lib.hid hr;have HT2:=Lib.hid ht;clear hr ht))
   case inr=>
    have hp:=HP.out
    rw[rdSets_none1 HJ.out HR2.out] at hp
    exact⟨rfl,HS.out.tu.trans (HT2.out.wide fun k e=>Or.inl e),Or.inr ⟨hp,rfl⟩⟩
   have hb1:=heap_alloc_new w2 (.cells #[.string ik,.int .i64 iv] 54)
   have hg2:w2.grownBy (w2.alloc (.cells #[.string ik,.int .i64 iv] 54)) none:=World.grownBy_alloc w2 _ none
   have hsz:(w2.alloc (.cells #[.string ik,.int .i64 iv] 54)).heap.size=w2.heap.size+1:=by simp
   generalize w2.alloc (.cells #[.string ik,.int .i64 iv] 54)=W2 at *
   have y0:W2.cell? ⟨w2.heap.size,0,none⟩=some (.string ik):=by simp[World.cell?,hb1]
   have y1:W2.cell? ⟨w2.heap.size,1,none⟩=some (.int .i64 iv):=by simp[World.cell?,hb1]
   have HB1:=Lib.hid hb1
   have HG2:=Lib.hid hg2
   have HSZ:=Lib.hid hsz
   obtain⟨M,hMe,hM⟩:=HS.out.ns
   have hMW:MapT W2 b encID encSet M:=(hM.map.same (HT2.out.block b hM.map.lt HBR.out)).kept hg2 (by simp)
   have HMM:=Lib.hid (And.intro hMe hM)
   have HMW:=Lib.hid hMW
   clear hb1 hg2 hsz hMe hM hMW
   go_upto_region 4 with (at_mapUpdate;refine wpList_updateT (ek:=encID) (ev:=encSet) _ rfl _ _ _ 120 rfl keID Tryz.underlying120 b M rfl (MapT.alloc HMW.out _) ⟨ik,iv⟩ ⟨W2.heap.size,[]⟩ rfl rfl ?_;intro w3 hm3 hg3 hs3;have HI3:=Lib.hid (NR.made (i:=⟨ik,iv⟩) HS.out HRB.out HBW.out HBB.out HBR.out HT2.out HD2.out.1 HD2.out.2 HB1.out HG2.out HSZ.out HMM.out.1 HMM.out.2 hm3 hg3);clear hm3 hg3 hs3)
   clear y0 y1 HMM HMW HB1 HG2 HSZ
   generalize w2.heap.size=bx at *
   have HN3:=Lib.hid (number_two HI3.out.rd (Nat.le_trans HBB.out (Nat.le_trans (Nat.le_of_lt HBW.out) HI3.out.tu.size)) HI3.out.bl 2 (by omega))
   go_upto_block 2 with (go_at_call 57;refine HN3.out.mono ?_;rintro e w4 ⟨ht,⟨d,t4,hr,rfl,hd,hb⟩|⟨hr,rfl⟩⟩ <;> first
    | (have HX4:=Lib.hid hr;have HI4:=Lib.hid (HI3.out.read HRB.out HBR.out ht hd hb);have hx:=rd_lt HD2.out.2 hr;(try dsimp only);rw[s64_sm (by omega)];clear hr hd hb ht)
    | (simp only[thrown];have HX4:=Lib.hid hr;have HT4:=Lib.hid ht;clear hr ht))
   case inr=>
    have hp:=HP.out
    rw[rdSets_none2 HJ.out HR2.out HX4.out] at hp
    exact⟨rfl,HI3.out.tu.trans (HT4.out.wide fun k e=>Or.inl e),Or.inr ⟨hp,rfl⟩⟩
   have hd2:(d:Int)≤65536:=by omega
   clear hx
   have HP4:Hid (RES=(rdMems n ⟨ik,iv⟩ (d-0) (mput m' ⟨ik,iv⟩ ⟨0,[]⟩) t4).bind fun p=>rdSets n (c-(j+1)) p.1 p.2):=(show _=_ from HP.out.trans (rdSets_step HJ.out HR2.out HX4.out))
   clear HI3 HN3 HX4 HR2 HP
   generalize mput m' ⟨ik,iv⟩ ⟨0,[]⟩=m4 at *
   go_wp2
   go_loopw [19] (fun x wi=>∃(j2:Nat) (mi:List (ID × NSet)) (ti:List Int),j2≤d∧x = .int .i64 j2∧NI B W rb b bx ⟨ik,iv⟩ wi mi ti∧RES=(rdMems n ⟨ik,iv⟩ (d-j2) mi ti).bind fun p=>rdSets n (c-(j+1)) p.1 p.2) (fun x _=>d-(intOf x).toNat)
   case atStart=>exact⟨0,m4,t4,Nat.zero_le _,rfl,HI4.out,HP4.out⟩
   case round=>
    clear HI4 HP4
    obtain⟨j2,mi,ti,hj2,rfl,hs,hp⟩:=hrel
    have HS5:=Lib.hid hs
    have HP5:=Lib.hid hp
    clear hs hp
    by_cases hlt2:j2<d
    ·have HJ2:=Lib.hid hlt2
     have HN5:=Lib.hid (number_two HS5.out.rd (Nat.le_trans HBB.out (Nat.le_trans (Nat.le_of_lt HBW.out) HS5.out.tu.size)) HS5.out.bl 2 (by omega))
     go_upto_region 7 with (go_at_call 57;refine HN5.out.mono ?_;rintro e w5 ⟨ht,⟨x,t5,hr,rfl,hd,hb⟩|⟨hr,rfl⟩⟩ <;> first
      | (have HX5:=Lib.hid hr;have HI5:=Lib.hid (HS5.out.read HRB.out HBR.out ht hd hb);have hx:=rd_lt HS5.out.bl hr;(try dsimp only);rw[s64_sm (by omega)];clear hr hd hb ht)
      | (simp only[thrown];have HX5:=Lib.hid hr;have HT5:=Lib.hid ht;clear hr ht))
     case inr=>
      have hp:=HP5.out
      rw[rdMems_none HJ2.out HX5.out] at hp
      exact⟨rfl,HS5.out.tu.trans (HT5.out.wide fun k e=>Or.inl e),Or.inr ⟨hp,rfl⟩⟩
     clear hx
     by_cases hn:(x:Int)<n
     ·have HNN:=Lib.hid hn
      obtain⟨y0,y1⟩:=HI5.out.cells
      obtain⟨M,s,hMe,hM,hms,hset⟩:=HI5.out.look
      have lk:=run_setsT b M ik iv (some s) hms w5 hM.map
      have HMM:=Lib.hid (And.intro hMe hM)
      have HMS:=Lib.hid hms
      have HSET:=Lib.hid hset
      clear hMe hM hms hset
      simp only[Option.map_some] at lk
      go_wp2_with (first
       | (go_at_call 59;refine(want_true _).mono ?_;rintro e w6 ⟨rfl,rfl⟩)
       | (go_at_call 159;refine(put_any s HSET.out x).mono ?_;rintro e w7 ⟨rfl,hs7,hg7⟩;have HI7:=Lib.hid (HI5.out.put HRB.out (Nat.le_trans HBB.out (Nat.le_of_lt HBW.out)) HMM.out.1 HMM.out.2 HMS.out (x:Int) hs7 hg7);clear hs7 hg7))
      go_roundw
      case rel=>exact⟨j2+1,_,_,by omega,by go_num,HI7.out,HP5.out.trans (by rw[rdMems_step HJ2.out HX5.out HNN.out])⟩
      case measure=>simp[intOf];omega
     ·have HNN:=Lib.hid hn
      have hd:decide ((x:Int)<n)=false:=decide_eq_false hn
      clear hn
      go_wp2_with (go_at_call 59;(try rw[hd]);refine(want_false _).mono ?_;rintro e w6 ⟨rfl,rfl⟩;simp only[thrown])
      have hp:=HP5.out
      rw[rdMems_high HJ2.out HX5.out (by have:=HNN.out;omega)] at hp
      exact⟨rfl,HI5.out.tu,Or.inr ⟨hp,rfl⟩⟩
    ·obtain rfl:j2=d:=by omega
     go_wp2
     go_roundw
     case rel=>exact⟨j+1,mi,ti,by omega,by go_num,HS5.out.done,by have hp:=HP5.out;rw[Nat.sub_self,rdMems,Option.bind_some] at hp;exact hp⟩
     case measure=>simp[intOf];omega
  ·obtain rfl:j=c:=by omega
   go_wp2
   go_end0
   refine⟨HS.out.tu,Or.inl ⟨m',t',?_,rfl,HS.out.rd,HS.out.bl,HS.out.ns⟩⟩
   have hp:=HP.out
   rw[Nat.sub_self,rdSets] at hp
   exact hp
end
open Go.RowKit Go.Sf Go.Shelf
def rdLives (o:Int):Nat→Nat→List Int→List Int→Option (List Int × List Int)
 | 0,_,L,l=>some (L,l)
 | k+1,i,L,l=>(rd 8 l).bind fun p=>if 0≤s64 p.1∧s64 p.1≤o then rdLives o k (i+1) (L.set i (s64 p.1)) p.2 else none
def rdCall (m:List (Int × CallT)) (l:List Int):Option (List (Int × CallT) × List Int):=
 (rd 2 l).bind fun c=>(rd 8 c.2).bind fun r=>(rd 8 r.2).bind fun v=>(rdBit v.2).bind fun d=>(rd 2 d.2).bind fun e=>some (mput m c.1 ⟨s64 r.1,s64 v.1,d.1,e.1⟩,e.2)
def rdVal (x:Int) (m:List (ByteArray × Val)) (l:List Int):Option (List (ByteArray × Val) × List Int):=
 (rdID l).bind fun i=>if 1≤i.1.ver∧i.1.ver<x then (rdBit i.2).bind fun d=>some (mput m i.1.key ⟨i.1.ver,d.1⟩,d.2) else none
def rdPend (x:Int) (m:List (ID × Pend)) (l:List Int):Option (List (ID × Pend) × List Int):=
 (rdID l).bind fun i=>if 1≤i.1.ver∧i.1.ver<x then (rd 2 i.2).bind fun c=>(rd 8 c.2).bind fun r=>some (mput m i.1 ⟨c.1,s64 r.1⟩,r.2) else none
def rep {α:Type} (f:α→List Int→Option (α × List Int)):Nat→α→List Int→Option (α × List Int)
 | 0,a,l=>some (a,l)
 | k+1,a,l=>(f a l).bind fun p=>rep f k p.1 p.2
def fR (n:Nat) (w o x:Int) (li:List Int) (ca:List (Int × CallT)) (va:List (ByteArray × Val)) (pe:List (ID × Pend)) (ho:List (ID × NSet)) (l:List Int):Option Tab:=(rdNodes n l).bind fun re=>some ⟨w,o,x,li,ca,va,pe,ho,re.1,0,0,0,0,0,0⟩
def fH (n:Nat) (w o x:Int) (li:List Int) (ca:List (Int × CallT)) (va:List (ByteArray × Val)) (pe:List (ID × Pend)) (l:List Int):Option Tab:=(rdNodes n l).bind fun ho=>fR n w o x li ca va pe ho.1 ho.2
def fP (n:Nat) (w o x:Int) (li:List Int) (ca:List (Int × CallT)) (va:List (ByteArray × Val)) (k:Nat) (m:List (ID × Pend)) (l:List Int):Option Tab:=(rep (rdPend x) k m l).bind fun pe=>fH n w o x li ca va pe.1 pe.2
def fP0 (n:Nat) (w o x:Int) (li:List Int) (ca:List (Int × CallT)) (va:List (ByteArray × Val)) (l:List Int):Option Tab:=(rd 4 l).bind fun c=>fP n w o x li ca va c.1 [] c.2
def fV (n:Nat) (w o x:Int) (li:List Int) (ca:List (Int × CallT)) (k:Nat) (m:List (ByteArray × Val)) (l:List Int):Option Tab:=(rep (rdVal x) k m l).bind fun va=>fP0 n w o x li ca va.1 va.2
def fV0 (n:Nat) (w o x:Int) (li:List Int) (ca:List (Int × CallT)) (l:List Int):Option Tab:=(rd 4 l).bind fun c=>fV n w o x li ca c.1 [] c.2
def fC (n:Nat) (w o x:Int) (li:List Int) (k:Nat) (m:List (Int × CallT)) (l:List Int):Option Tab:=(rep rdCall k m l).bind fun ca=>fV0 n w o x li ca.1 ca.2
def fC0 (n:Nat) (w o x:Int) (li:List Int) (l:List Int):Option Tab:=(rd 4 l).bind fun c=>fC n w o x li c.1 [] c.2
def fL (n:Nat) (w o x:Int) (k i:Nat) (L l:List Int):Option Tab:=(rdLives o k i L l).bind fun li=>fC0 n w o x li.1 li.2
def fits0 (n:Nat) (w o x:Int):Bool:=decide (clampN n=n) && decide (clampW n w=w) && decide (0≤o) && decide (1≤x)
def fX (n:Nat) (w o x:Int) (l:List Int):Option Tab:=if fits0 n w o x=true then fL n w o x n 0 (List.replicate n 0) l else none
def decF (l:List Int):Option Tab:=(rd 2 l).bind fun n=>(rd 2 n.2).bind fun w=>(rd 8 w.2).bind fun o=>(rd 8 o.2).bind fun x=>fX n.1 w.1 (s64 o.1) (s64 x.1) x.2
def Refused (RES:Option Tab) (l0:List Int):Prop:=∀L,RES=some L→encT L≠l0
def FromPost (W:World) (l0:List Int) (e:Ending) (w':World):Prop:=
 W.grownBy w' none∧((∃tb T,e = .returned (.tuple #[.pointer (some ⟨tb,0,none⟩),.int .i64 0])∧decF l0=some T.norm∧encT T.norm=l0∧TRep w' tb T∧(∀b∈T.blocks tb,W.heap.size≤b))∨(e = .returned (.tuple #[.pointer none,.int .i64 2])∧Refused (decF l0) l0))
structure FB (W w:World):Prop where
 b2:∃v,w.heap[W.heap.size]? = some (.cells #[v] 38 (0,0))
 b3:∃v,w.heap[W.heap.size+1]? = some (.cells #[v] 22 (0,0))
 gr:W.grownBy w none
def fdef (W:World):List Deferred:=[⟨.fn (.func 96) #[.pointer (some ⟨W.heap.size,0,none⟩),.pointer (some ⟨W.heap.size+1,0,none⟩)],#[]⟩]
def FromQ (W:World) (RES:Option Tab) (l0:List Int):Exit→Act→World→Prop
 | .panic c,a,w=>c = [{ v:=.iface 186 (.agg #[]),recovered:=false }]∧FB W w∧a.defers=fdef W∧a.tmps.getD 2 undef = .pointer (some ⟨W.heap.size,0,none⟩)∧a.tmps.getD 3 undef = .pointer (some ⟨W.heap.size+1,0,none⟩)∧Refused RES l0
 | .ret,a,w=>a.defers=fdef W∧a.tmps.getD 2 undef = .pointer (some ⟨W.heap.size,0,none⟩)∧a.tmps.getD 3 undef = .pointer (some ⟨W.heap.size+1,0,none⟩)∧W.grownBy w none∧∃tb T,w.heap[W.heap.size]? = some (.cells #[.pointer (some ⟨tb,0,none⟩)] 38 (0,0))∧w.heap[W.heap.size+1]? = some (.cells #[.int .i64 0] 22 (0,0))∧RES=some T.norm∧encT T.norm=l0∧TRep w tb T∧(∀b∈T.blocks tb,W.heap.size≤b)
 | _,_,_=>False
section
variable {W w : World}
set_option maxRecDepth 100000 in
theorem from_bad (h:FB W w):CallsD Tryz.prog 96 #[.pointer (some ⟨W.heap.size,0,none⟩),.pointer (some ⟨W.heap.size+1,0,none⟩)] (.panicking [{ v:=.iface 186 (.agg #[]),recovered:=false }]) w fun e u' w'=>
  e = .returned (.tuple #[])∧u' = .panicking [{ v:=.iface 186 (.agg #[]),recovered:=true }]∧w'.cell? ⟨W.heap.size,0,none⟩=some (.pointer none)∧w'.cell? ⟨W.heap.size+1,0,none⟩=some (.int .i64 2)∧W.grownBy w' none:=by
 obtain⟨v2,h2⟩:=h.b2
 obtain⟨v3,h3⟩:=h.b3
 have hg:=h.gr
 have d2:w.cell? ⟨W.heap.size,0,none⟩=some v2:=by simp[World.cell?,h2]
 have d3:w.cell? ⟨W.heap.size+1,0,none⟩=some v3:=by simp[World.cell?,h3]
 have f2:∀i,w.frozen? ⟨W.heap.size,i,none⟩=false:=fun i=>by simp[World.frozen?,h2]
 have f3:∀i,w.frozen? ⟨W.heap.size+1,i,none⟩=false:=fun i=>by simp[World.frozen?,h3]
 refine callsD_of_wpS Tryz.func96 rfl fun c₀ cs hu=>?_
 apply wpS_seq
 apply wpS_region
 simp[wpOpsS,go_sem,recoverD,hu,Tryz.ntmps96,Exit.thenS]
 refine(caught_some _).mono ?_
 rintro e w1 ⟨rfl,rfl⟩
 simp only[Exit.thenS]
 refine wpS_cond (t:=true) (by simp[Act.eval,Array.replicate]) ?_
 simp only[if_true]
 apply wpS_region
 simp[wpOpsS,go_sem,d2,d3,f2,f3,bodyPostS,results,Tryz.results96]
 exact grown_setCell (grown_setCell hg (Nat.le_refl _) _) (Nat.le_succ _) _
set_option maxRecDepth 100000 in
theorem from_ok (w:World) (p q:Value):CallsD Tryz.prog 96 #[p,q] .returning w fun e u' w'=>e = .returned (.tuple #[])∧u' = .returning∧w'=w:=by
 refine callsD_of_wpS Tryz.func96 rfl fun c₀ cs hu=>?_
 apply wpS_seq
 apply wpS_region
 simp[wpOpsS,go_sem,recoverD,hu,Tryz.ntmps96,Exit.thenS]
 refine(caught_none _).mono ?_
 rintro e w1 ⟨rfl,rfl⟩
 simp only[Exit.thenS]
 refine wpS_cond (t:=false) (by simp[Act.eval,Array.replicate]) ?_
 simp only[Bool.false_eq_true,if_false]
 refine wpS_of_wp (wp_skip ?_)
 cases c₀
 simp_all [bodyPostS,results,Tryz.results96]
theorem fromQ_post {l0:List Int}:∀e a w,FromQ W (decF l0) l0 e a w→bodyPostD Tryz.prog Tryz.f41 (FromPost W l0) e a w:=by
 intro e a w h
 cases e with
 | panic c=>
  obtain⟨rfl,hb,hd,h2,h3,hr⟩:=h
  obtain⟨tmps,defers⟩:=a
  simp only at hd h2 h3
  subst hd
  refine leaves_cons (f:=96) (args:=#[.pointer (some ⟨W.heap.size,0,none⟩),.pointer (some ⟨W.heap.size+1,0,none⟩)]) (by simp) (by simp[go_sem]) ?_
  refine(from_bad hb).mono ?_
  rintro e u' w2 ⟨rfl,rfl,d2,d3,hg⟩
  simp only[Array.getD_eq_getD_getElem?] at h2 h3
  simp[Leaves,settle,results,Tryz.results41,go_sem,d2,d3,h2,h3]
  exact⟨hg,Or.inr ⟨rfl,hr⟩⟩
 | ret=>
  obtain⟨hd,h2,h3,hg,tb,T,e2,e3,hr,he,hT,hb⟩:=h
  obtain⟨tmps,defers⟩:=a
  simp only at hd h2 h3
  subst hd
  have d2:w.cell? ⟨W.heap.size,0,none⟩=some (.pointer (some ⟨tb,0,none⟩)):=by simp[World.cell?,e2]
  have d3:w.cell? ⟨W.heap.size+1,0,none⟩=some (.int .i64 0):=by simp[World.cell?,e3]
  refine leaves_cons (f:=96) (args:=#[.pointer (some ⟨W.heap.size,0,none⟩),.pointer (some ⟨W.heap.size+1,0,none⟩)]) (by simp) (by simp[go_sem]) ?_
  refine(from_ok _ _ _).mono ?_
  rintro e u' w2 ⟨rfl,rfl,rfl⟩
  simp only[Array.getD_eq_getD_getElem?] at h2 h3
  simp[Leaves,settle,results,Tryz.results41,go_sem,d2,d3,h2,h3]
  exact⟨hg,Or.inl ⟨tb,T,rfl,hr,he,hT,hb⟩⟩
 | _=>exact h.elim
end
end Go.Proofs.YtjfelfjobeeenaaGreat
