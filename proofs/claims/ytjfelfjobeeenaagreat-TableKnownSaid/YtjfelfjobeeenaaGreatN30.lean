/- The reader's nodes: the walk, with the way out by a panic. Conditions: none, or as the theorems say. -/
import Derived.Test.YtjfelfjobeeenaaGreatN29
namespace Go.Proofs.YtjfelfjobeeenaaGreat
set_option maxHeartbeats 200000000
set_option linter.unusedVariables false
set_option linter.unusedSimpArgs false
open Go.RowKit Go.Sf
def NPost (B:Nat) (W:World) (rb b:Nat) (o:Option (List (ID × ye) × List Int)) (e:Ending) (w':World):Prop:=
 yc (fun k=>k=rb∨k=b) W w'∧((∃m t,o=some (m,t)∧e = .returned (.tuple #[])∧Rd B w' rb t∧BL t∧NS (fun k=>W.heap.size≤k) b w' m)∨(o=none∧e=xh))
theorem yc.wide {bs cs:Nat→Prop} {w w':World} (h:yc bs w w') (hs:∀k,bs k→cs k):yc cs w w':=
 ⟨h.os,h.tape,h.output,h.size,fun k hk hn=>h.block k hk fun e=>hn (hs k e)⟩
structure NR (B:Nat) (W:World) (rb b:Nat) (w:World) (m:List (ID × ye)) (t:List Int):Prop where
 tu:yc (fun k=>k=rb∨k=b) W w
 rd:Rd B w rb t
 bl:BL t
 ns:NS (fun k=>W.heap.size≤k) b w m
structure NI (B:Nat) (W:World) (rb b bx:Nat) (i:ID) (w:World) (m:List (ID × ye)) (t:List Int):Prop where
 tu:yc (fun k=>k=rb∨k=b) W w
 rd:Rd B w rb t
 bl:BL t
 ns:NS (fun k=>W.heap.size≤k∧k≠bx) b w m
 has:(zt m i).isSome=true
 box:w.heap[bx]? = some (.cells #[.string i.key,.int .i64 i.zvz] 54 (0,0))
 new:W.heap.size≤bx
section
variable {B : Nat} {W w w' : World} {rb b bx : Nat} {m : List (ID × ye)} {t t' : List Int} {i : ID}
theorem NI.read (h:NI B W rb b bx i w m t) (hrb:rb<W.heap.size) (hbr:b≠rb) (ht:yc (fun k=>k=rb) w w') (hd:Rd B w' rb t') (hb:BL t'):NI B W rb b bx i w' m t':=by
 have h1:=h.new;refine⟨h.tu.trans (ht.wide fun k e=>Or.inl e),hd,hb,h.ns.same fun k hk hl=>ht.block k hl ?_,h.has,(ht.block bx (Array.getElem?_eq_some_iff.1 h.box).1 (show ¬bx=rb by omega)).trans h.box,h1⟩
 rcases hk with rfl|hk
 ·exact hbr
 ·exact(show ¬k=rb by omega)
theorem NI.cells (h:NI B W rb b bx i w m t):w.cell? ⟨bx,0,none⟩=some (.string i.key)∧w.cell? ⟨bx,1,none⟩=some (.int .i64 i.zvz):=by
 have e:=h.box
 exact⟨by simp[World.cell?,e],by simp[World.cell?,e]⟩
theorem NI.look (h:NI B W rb b bx i w m t):∃M s,vp M=m∧NM (fun k=>W.heap.size≤k∧k≠bx) b w M∧zt M i=some s∧qr w s:=by
 obtain⟨M,e,hM⟩:=h.ns;have h1:=h.has;rw[←e,zam] at h1
 cases h2:zt M i with
 | none=>rw[h2] at h1;cases h1
 | some s=>exact⟨M,s,e,hM,h2,hM.sets _ (yd h2)⟩
theorem NI.put {M:List (ID × ye)} {s:ye} (h:NI B W rb b bx i w m t) (hrb:rb<W.heap.size) (hB:B≤W.heap.size) (e:vp M=m) (hM:NM (fun k=>W.heap.size≤k∧k≠bx) b w M) (hs:zt M i=some s) (x:Int) (hm:qr w' ⟨s.blk,um s.mem x⟩) (hg:w.grownBy w' (some s.blk)):NI B W rb b bx i w' (ql m i fun l=>um l x) t:=by
 have hb:W.heap.size≤s.blk∧s.blk≠bx:=hM.bl _ (yd hs);have h1:=h.new;have h3:=h.tu.size;have hrd:=h.rd;obtain⟨v,hv,hv2⟩:=hrd.ex;refine⟨⟨hg.os.trans h.tu.os,hg.tape.trans h.tu.tape,hg.output.trans h.tu.output,Nat.le_trans h.tu.size hg.size,fun k hk hn=>(hg.block k (by omega) (fun e=>by cases e;exact absurd hb.1 (by omega))).trans (h.tu.block k hk hn)⟩,⟨hrd.le,v,(hg.block rb (by omega) (fun e=>by cases e;exact absurd hb.1 (by omega))).trans hv,hv2.turn fun k hk=>hg.block k (by omega) (fun e=>by cases e;exact absurd hb.1 (by omega))⟩,h.bl,⟨ql M i fun l=>um l x,by rw[zas,e],hM.put hs (fun l=>um l x) hm hg⟩,zsl _ h.has,(hg.block bx (Array.getElem?_eq_some_iff.1 h.box).1 (fun e=>by cases e;exact hb.2 rfl)).trans h.box,h1⟩
theorem NI.done (h:NI B W rb b bx i w m t):NR B W rb b w m t:=⟨h.tu,h.rd,h.bl,h.ns.more fun k _ hk=>hk.1⟩
theorem NR.made {M:List (ID × ye)} {w1 w2 w3:World} (h:NR B W rb b w m t) (hrb:rb<W.heap.size) (hbW:b<W.heap.size) (hB:B≤b) (hbr:b≠rb) (ht:yc (fun k=>k=rb) w w1) (hd:Rd B w1 rb t') (hbl:BL t') (hb1:w2.heap[w1.heap.size]? = some (.cells #[.string i.key,.int .i64 i.zvz] 54 (0,0))) (hg2:w1.grownBy w2 none) (hsz:w2.heap.size=w1.heap.size+1)
  (e:vp M=m) (hM:NM (fun k=>W.heap.size≤k) b w M) (hm:zw w3 b zx yw (ym M i ⟨w2.heap.size,[]⟩)) (hg3:(w2.alloc (.map #[] 0)).grownBy w3 (some b)):NI B W rb b w1.heap.size i w3 (ym m i ⟨0,[]⟩) t':=by
 have hs1:=h.tu.size;have hs2:=ht.size;have hlt:=fun x hx=>zw.lt (hM.sets x hx)
 have hM2:NM (fun k=>W.heap.size≤k∧k≠w1.heap.size) b w2 M:=by
  have hM1:NM (fun k=>W.heap.size≤k) b w2 M:=hM.same fun k hk hl=>(hg2.block k (by omega) (by simp)).trans (ht.block k hl (by rcases hk with rfl|hk;exact hbr;exact(show ¬k=rb by omega)))
  exact⟨hM1.map,hM1.sets,hM1.nd,fun x hx=>⟨hM1.bl x hx,by have:=hlt x hx;omega⟩⟩
 have hg:w2.grownBy w3 (some b):=(zc w2 (.map #[] 0) (some b)).andThen hg3 (fun j hj=>by cases hj;exact Or.inr rfl)
 have hset:qr w3 ⟨w2.heap.size,[]⟩:=zw.kept (zby w2 (Value.int .i64) Yd:zw (w2.alloc (.map #[] 0)) w2.heap.size (Value.int .i64) Yd ([]:List (Int × Unit))) hg3 (by simp;omega)
 obtain⟨v,hv,hv2⟩:=hd.ex;refine⟨?_,?_,hbl,⟨_,by rw[zo0,e],hM2.made ⟨by omega,by omega⟩ (Nat.le_refl _) hm hset hg⟩,zsk,(hg.block w1.heap.size (by omega) (fun e=>by cases e;omega)).trans hb1,by omega⟩
 ·refine h.tu.trans ((ht.wide fun k e=>Or.inl e).trans ⟨hg.os.trans hg2.os,hg.tape.trans hg2.tape,hg.output.trans hg2.output,Nat.le_trans hg2.size hg.size,fun k hk hn=>(hg.block k (by omega) (fun e=>hn (Or.inr (by cases e;rfl)))).trans (hg2.block k hk (by simp))⟩)
 ·exact⟨hd.le,v,(hg.block rb (by omega) (fun e=>hbr (by cases e;rfl))).trans ((hg2.block rb (by omega) (by simp)).trans hv),hv2.turn fun k hk=>(hg.block k (by omega) (fun e=>by cases e;omega)).trans (hg2.block k (by omega) (by simp))⟩
theorem znd {n:Int} {c j x:Nat} (hj:j<c) (hr:rd 2 t=some (x,t')) (hx:(x:Int)<n):Zs n i (c-j) m t=Zs n i (c-(j+1)) (ql m i fun l=>um l x) t':=by
 rw[show c-j=(c-(j+1))+1 by omega,Zs,zfk,hr]
 simp only[Option.bind_some,if_pos hx]
theorem znb {n:Int} {c j x:Nat} (hj:j<c) (hr:rd 2 t=some (x,t')) (hx:¬(x:Int)<n):Zs n i (c-j) m t=none:=by
 rw[show c-j=(c-(j+1))+1 by omega,Zs,zfk,hr]
 simp only[Option.bind_some,if_neg hx,Option.bind_none]
theorem znc {n:Int} {c j:Nat} (hj:j<c) (hr:rd 2 t=none):Zs n i (c-j) m t=none:=by
 rw[show c-j=(c-(j+1))+1 by omega,Zs,zfk,hr]
 rfl
theorem zne {n:Int} {c j x:Nat} {t2:List Int} (hj:j<c) (hr:Ql t=some (i,t')) (hx:rd 2 t'=some (x,t2)):Ym n (c-j) m t=(Zs n i x (ym m i ⟨0,[]⟩) t2).bind fun p=>Ym n (c-(j+1)) p.1 p.2:=by
 rw[show c-j=(c-(j+1))+1 by omega,Ym,zaz,hr]
 simp only[Option.bind_some,hx]
theorem zky {n:Int} {c j:Nat} (hj:j<c) (hr:Ql t=none):Ym n (c-j) m t=none:=by
 rw[show c-j=(c-(j+1))+1 by omega,Ym,zaz,hr]
 rfl
theorem zkz {n:Int} {c j:Nat} (hj:j<c) (hr:Ql t=some (i,t')) (hx:rd 2 t'=none):Ym n (c-j) m t=none:=by
 rw[show c-j=(c-(j+1))+1 by omega,Ym,zaz,hr]
 simp only[Option.bind_some,hx,Option.bind_none]
set_option maxRecDepth 100000 in
theorem zi5 (h:Rd B W rb t) (hB:B≤b) (hbr:b≠rb) (hl:BL t) (n:Int) (hm:zw W b zx yw []):Calls Tryz.prog 99 #[.pointer (some ⟨rb,0,none⟩),.map (some b),.int .i64 n] W (NPost B W rb b (Xq n t)):=by
 have hbW:=hm.lt;have hrb:rb<W.heap.size:=by obtain⟨v,hb,-⟩:=h.ex;exact(Array.getElem?_eq_some_iff.1 hb).1
 have HBB:=za hB;have HBR:=za hbr;have HRB:=za hrb;have HBW:=za hbW;have HL:=za hl;have HN0:=za (Yw h (Nat.le_trans hB (Nat.le_of_lt hbW)) hl 4 (by omega))
 have HM0:=za hm;have hmm:=@run_makeMap Tryz.prog;clear h hB hbr hrb hbW hl hm
 go_enter Tryz.func99,Tryz.ntmps99
 go_upto_block 0 with (go_at_call 57;refine HN0.out.mono ?_;rintro e w1 ⟨ht,⟨c,t1,hr,rfl,hd,hb⟩|⟨hr,rfl⟩⟩ <;> first
   | (have HR:=za hr;have HD:=za (And.intro hd hb);have HT:=za ht;have hx:=za0 HL.out hr;(try dsimp only);rw[Ub (by omega)];clear hr hd hb ht)
   | (simp only[xh];have HR:=za hr;have HT:=za ht;clear hr ht))
 case inr=>exact⟨rfl,HT.out.wide fun k e=>Or.inl e,Or.inr ⟨by rw[Xq,HR.out];rfl,rfl⟩⟩
 have HS0:Hid (NR B W rb b w1 [] t1):=(show NR _ _ _ _ _ _ _ from ⟨HT.out.wide fun k e=>Or.inl e,HD.out.1,HD.out.2,NS.start (HM0.out.same (HT.out.block b HBW.out HBR.out))⟩)
 have HP0:Hid (Xq n t=Ym n (c-0) [] t1):=(show _=_ from by rw[Xq,HR.out];rfl)
 clear HT HD HR HM0 HN0 HL;generalize Xq n t=RES at *;have hc4:(c:Int)≤4294967296:=by omega
 clear hx;go_wp2
 go_loopw [10] (fun x wr=>∃(j:Nat) (m':List (ID × ye)) (t':List Int),j≤c∧x = .int .i64 j∧NR B W rb b wr m' t'∧RES=Ym n (c-j) m' t') (fun x _=>c-(intOf x).toNat)
 case atStart=>exact⟨0,[],t1,Nat.zero_le _,rfl,HS0.out,HP0.out⟩
 case round=>
  clear HS0 HP0;obtain⟨j,m',t',hj,rfl,hs,hp⟩:=hrel;have HS:=za hs;have HP:=za hp;clear hs hp
  by_cases hlt:j<c
  ·have HJ:=za hlt
   have HI:=za (ztt HS.out.rd (Nat.le_trans HBB.out (Nat.le_trans (Nat.le_of_lt HBW.out) HS.out.tu.size)) HS.out.bl)
   go_upto_region 3 with (go_at_call 98;refine HI.out.mono ?_;rintro e w2 ⟨ht,⟨i,t2,hr,rfl,hd,hb⟩|⟨hr,rfl⟩⟩ <;> first
    | (have HR2:=za hr;have HD2:=za (And.intro hd hb);have HT2:=za ht;obtain⟨ik,iv⟩:=i;(try dsimp only);simp only[zx];clear hr hd hb ht)
    | (simp only[xh];have HR2:=za hr;have HT2:=za ht;clear hr ht))
   case inr=>
    have hp:=HP.out;rw[zky HJ.out HR2.out] at hp
    exact⟨rfl,HS.out.tu.trans (HT2.out.wide fun k e=>Or.inl e),Or.inr ⟨hp,rfl⟩⟩
   have hb1:=heap_alloc_new w2 (.cells #[.string ik,.int .i64 iv] 54);have hg2:w2.grownBy (w2.alloc (.cells #[.string ik,.int .i64 iv] 54)) none:=zc w2 _ none;have hsz:(w2.alloc (.cells #[.string ik,.int .i64 iv] 54)).heap.size=w2.heap.size+1:=by simp
   generalize w2.alloc (.cells #[.string ik,.int .i64 iv] 54)=W2 at *;have y0:W2.cell? ⟨w2.heap.size,0,none⟩=some (.string ik):=by simp[World.cell?,hb1]
   have y1:W2.cell? ⟨w2.heap.size,1,none⟩=some (.int .i64 iv):=by simp[World.cell?,hb1]
   have HB1:=za hb1;have HG2:=za hg2;have HSZ:=za hsz;obtain⟨M,hMe,hM⟩:=HS.out.ns;have hMW:zw W2 b zx yw M:=(hM.map.same (HT2.out.block b hM.map.lt HBR.out)).kept hg2 (by simp)
   have HMM:=za (And.intro hMe hM);have HMW:=za hMW;clear hb1 hg2 hsz hMe hM hMW
   go_upto_region 4 with (at_mapUpdate;refine vt (ek:=zx) (ev:=yw) _ rfl _ _ _ 120 rfl zdf Tryz.underlying120 b M rfl (zw.alloc HMW.out _) ⟨ik,iv⟩ ⟨W2.heap.size,[]⟩ rfl rfl ?_;intro w3 hm3 hg3 hs3;have HI3:=za (NR.made (i:=⟨ik,iv⟩) HS.out HRB.out HBW.out HBB.out HBR.out HT2.out HD2.out.1 HD2.out.2 HB1.out HG2.out HSZ.out HMM.out.1 HMM.out.2 hm3 hg3);clear hm3 hg3 hs3)
   clear y0 y1 HMM HMW HB1 HG2 HSZ;generalize w2.heap.size=bx at *;have HN3:=za (Yw HI3.out.rd (Nat.le_trans HBB.out (Nat.le_trans (Nat.le_of_lt HBW.out) HI3.out.tu.size)) HI3.out.bl 2 (by omega))
   go_upto_block 2 with (go_at_call 57;refine HN3.out.mono ?_;rintro e w4 ⟨ht,⟨d,t4,hr,rfl,hd,hb⟩|⟨hr,rfl⟩⟩ <;> first
    | (have HX4:=za hr;have HI4:=za (HI3.out.read HRB.out HBR.out ht hd hb);have hx:=za0 HD2.out.2 hr;(try dsimp only);rw[Ub (by omega)];clear hr hd hb ht)
    | (simp only[xh];have HX4:=za hr;have HT4:=za ht;clear hr ht))
   case inr=>
    have hp:=HP.out;rw[zkz HJ.out HR2.out HX4.out] at hp
    exact⟨rfl,HI3.out.tu.trans (HT4.out.wide fun k e=>Or.inl e),Or.inr ⟨hp,rfl⟩⟩
   have hd2:(d:Int)≤65536:=by omega
   clear hx;have HP4:Hid (RES=(Zs n ⟨ik,iv⟩ (d-0) (ym m' ⟨ik,iv⟩ ⟨0,[]⟩) t4).bind fun p=>Ym n (c-(j+1)) p.1 p.2):=(show _=_ from HP.out.trans (zne HJ.out HR2.out HX4.out))
   clear HI3 HN3 HX4 HR2 HP;generalize ym m' ⟨ik,iv⟩ ⟨0,[]⟩=m4 at *;go_wp2
   go_loopw [19] (fun x wi=>∃(j2:Nat) (mi:List (ID × ye)) (ti:List Int),j2≤d∧x = .int .i64 j2∧NI B W rb b bx ⟨ik,iv⟩ wi mi ti∧RES=(Zs n ⟨ik,iv⟩ (d-j2) mi ti).bind fun p=>Ym n (c-(j+1)) p.1 p.2) (fun x _=>d-(intOf x).toNat)
   case atStart=>exact⟨0,m4,t4,Nat.zero_le _,rfl,HI4.out,HP4.out⟩
   case round=>
    clear HI4 HP4;obtain⟨j2,mi,ti,hj2,rfl,hs,hp⟩:=hrel;have HS5:=za hs;have HP5:=za hp;clear hs hp
    by_cases hlt2:j2<d
    ·have HJ2:=za hlt2
     have HN5:=za (Yw HS5.out.rd (Nat.le_trans HBB.out (Nat.le_trans (Nat.le_of_lt HBW.out) HS5.out.tu.size)) HS5.out.bl 2 (by omega))
     go_upto_region 7 with (go_at_call 57;refine HN5.out.mono ?_;rintro e w5 ⟨ht,⟨x,t5,hr,rfl,hd,hb⟩|⟨hr,rfl⟩⟩ <;> first
      | (have HX5:=za hr;have HI5:=za (HS5.out.read HRB.out HBR.out ht hd hb);have hx:=za0 HS5.out.bl hr;(try dsimp only);rw[Ub (by omega)];clear hr hd hb ht)
      | (simp only[xh];have HX5:=za hr;have HT5:=za ht;clear hr ht))
     case inr=>
      have hp:=HP5.out;rw[znc HJ2.out HX5.out] at hp
      exact⟨rfl,HS5.out.tu.trans (HT5.out.wide fun k e=>Or.inl e),Or.inr ⟨hp,rfl⟩⟩
     clear hx
     by_cases hn:(x:Int)<n
     ·have HNN:=za hn
      obtain⟨y0,y1⟩:=HI5.out.cells;obtain⟨M,s,hMe,hM,hms,hset⟩:=HI5.out.look;have lk:=ud b M ik iv (some s) hms w5 hM.map;have HMM:=za (And.intro hMe hM);have HMS:=za hms;have HSET:=za hset;clear hMe hM hms hset;simp only[Option.map_some] at lk
      go_wp2_with (first
       | (go_at_call 59;refine(xu _).mono ?_;rintro e w6 ⟨rfl,rfl⟩)
       | (go_at_call 159;refine(zdo s HSET.out x).mono ?_;rintro e w7 ⟨rfl,hs7,hg7⟩;have HI7:=za (HI5.out.put HRB.out (Nat.le_trans HBB.out (Nat.le_of_lt HBW.out)) HMM.out.1 HMM.out.2 HMS.out (x:Int) hs7 hg7);clear hs7 hg7))
      go_roundw
      case rel=>exact⟨j2+1,_,_,by omega,by go_num,HI7.out,HP5.out.trans (by rw[znd HJ2.out HX5.out HNN.out])⟩
      case measure=>simp[intOf];omega
     ·have HNN:=za hn
      have hd:decide ((x:Int)<n)=false:=decide_eq_false hn;clear hn
      go_wp2_with (go_at_call 59;(try rw[hd]);refine(yt _).mono ?_;rintro e w6 ⟨rfl,rfl⟩;simp only[xh])
      have hp:=HP5.out;rw[znb HJ2.out HX5.out (by have:=HNN.out;omega)] at hp
      exact⟨rfl,HI5.out.tu,Or.inr ⟨hp,rfl⟩⟩
    ·obtain rfl:j2=d:=by omega
     go_wp2
     go_roundw
     case rel=>exact⟨j+1,mi,ti,by omega,by go_num,HS5.out.done,by have hp:=HP5.out;rw[Nat.sub_self,Zs,Option.bind_some] at hp;exact hp⟩
     case measure=>simp[intOf];omega
  ·obtain rfl:j=c:=by omega
   go_wp2
   go_end0
   refine⟨HS.out.tu,Or.inl ⟨m',t',?_,rfl,HS.out.rd,HS.out.bl,HS.out.ns⟩⟩;have hp:=HP.out;rw[Nat.sub_self,Ym] at hp
   exact hp
end
open Go.RowKit Go.Sf Go.Shelf
def Vn (o:Int):Nat→Nat→List Int→List Int→Option (List Int × List Int)
 | 0,_,L,l=>some (L,l)
 | k+1,i,L,l=>(rd 8 l).bind fun p=>if 0≤s64 p.1∧s64 p.1≤o then Vn o k (i+1) (L.set i (s64 p.1)) p.2 else none
def zap (m:List (Int × yz)) (l:List Int):Option (List (Int × yz) × List Int):=
 (rd 2 l).bind fun c=>(rd 8 c.2).bind fun r=>(rd 8 r.2).bind fun v=>(Ue v.2).bind fun d=>(rd 2 d.2).bind fun e=>some (ym m c.1 ⟨s64 r.1,s64 v.1,d.1,e.1⟩,e.2)
def zds (x:Int) (m:List (ByteArray × Val)) (l:List Int):Option (List (ByteArray × Val) × List Int):=
 (Ql l).bind fun i=>if 1≤i.1.zvz∧i.1.zvz<x then (Ue i.2).bind fun d=>some (ym m i.1.key ⟨i.1.zvz,d.1⟩,d.2) else none
def zaq (x:Int) (m:List (ID × xd)) (l:List Int):Option (List (ID × xd) × List Int):=
 (Ql l).bind fun i=>if 1≤i.1.zvz∧i.1.zvz<x then (rd 2 i.2).bind fun c=>(rd 8 c.2).bind fun r=>some (ym m i.1 ⟨c.1,s64 r.1⟩,r.2) else none
def rep {α:Type} (f:α→List Int→Option (α × List Int)):Nat→α→List Int→Option (α × List Int)
 | 0,a,l=>some (a,l)
 | k+1,a,l=>(f a l).bind fun p=>rep f k p.1 p.2
def fR (n:Nat) (w o x:Int) (li:List Int) (ca:List (Int × yz)) (va:List (ByteArray × Val)) (pe:List (ID × xd)) (ho:List (ID × ye)) (l:List Int):Option Tab:=(Xq n l).bind fun re=>some ⟨w,o,x,li,ca,va,pe,ho,re.1,0,0,0,0,0,0⟩
def fH (n:Nat) (w o x:Int) (li:List Int) (ca:List (Int × yz)) (va:List (ByteArray × Val)) (pe:List (ID × xd)) (l:List Int):Option Tab:=(Xq n l).bind fun ho=>fR n w o x li ca va pe ho.1 ho.2
def fP (n:Nat) (w o x:Int) (li:List Int) (ca:List (Int × yz)) (va:List (ByteArray × Val)) (k:Nat) (m:List (ID × xd)) (l:List Int):Option Tab:=(rep (zaq x) k m l).bind fun pe=>fH n w o x li ca va pe.1 pe.2
def fP0 (n:Nat) (w o x:Int) (li:List Int) (ca:List (Int × yz)) (va:List (ByteArray × Val)) (l:List Int):Option Tab:=(rd 4 l).bind fun c=>fP n w o x li ca va c.1 [] c.2
def fV (n:Nat) (w o x:Int) (li:List Int) (ca:List (Int × yz)) (k:Nat) (m:List (ByteArray × Val)) (l:List Int):Option Tab:=(rep (zds x) k m l).bind fun va=>fP0 n w o x li ca va.1 va.2
def fV0 (n:Nat) (w o x:Int) (li:List Int) (ca:List (Int × yz)) (l:List Int):Option Tab:=(rd 4 l).bind fun c=>fV n w o x li ca c.1 [] c.2
def fC (n:Nat) (w o x:Int) (li:List Int) (k:Nat) (m:List (Int × yz)) (l:List Int):Option Tab:=(rep zap k m l).bind fun ca=>fV0 n w o x li ca.1 ca.2
def fC0 (n:Nat) (w o x:Int) (li:List Int) (l:List Int):Option Tab:=(rd 4 l).bind fun c=>fC n w o x li c.1 [] c.2
def fL (n:Nat) (w o x:Int) (k i:Nat) (L l:List Int):Option Tab:=(Vn o k i L l).bind fun li=>fC0 n w o x li.1 li.2
def zp3 (n:Nat) (w o x:Int):Bool:=decide (vm n=n) && decide (yu n w=w) && decide (0≤o) && decide (1≤x)
def fX (n:Nat) (w o x:Int) (l:List Int):Option Tab:=if zp3 n w o x=true then fL n w o x n 0 (List.replicate n 0) l else none
def zd5 (l:List Int):Option Tab:=(rd 2 l).bind fun n=>(rd 2 n.2).bind fun w=>(rd 8 w.2).bind fun o=>(rd 8 o.2).bind fun x=>fX n.1 w.1 (s64 o.1) (s64 x.1) x.2
def zf6 (RES:Option Tab) (l0:List Int):Prop:=∀L,RES=some L→qa L≠l0
def zlg (W:World) (l0:List Int) (e:Ending) (w':World):Prop:=
 W.grownBy w' none∧((∃tb T,e = .returned (.tuple #[.pointer (some ⟨tb,0,none⟩),.int .i64 0])∧zd5 l0=some T.norm∧qa T.norm=l0∧yh w' tb T∧(∀b∈T.blocks tb,W.heap.size≤b))∨(e = .returned (.tuple #[.pointer none,.int .i64 2])∧zf6 (zd5 l0) l0))
structure FB (W w:World):Prop where
 b2:∃v,w.heap[W.heap.size]? = some (.cells #[v] 38 (0,0))
 b3:∃v,w.heap[W.heap.size+1]? = some (.cells #[v] 22 (0,0))
 gr:W.grownBy w none
def fdef (W:World):List Deferred:=[⟨.fn (.func 96) #[.pointer (some ⟨W.heap.size,0,none⟩),.pointer (some ⟨W.heap.size+1,0,none⟩)],#[]⟩]
def zr (W:World) (RES:Option Tab) (l0:List Int):Exit→Act→World→Prop
 | .panic c,a,w=>c = [{ v:=.iface 186 (.agg #[]),recovered:=false }]∧FB W w∧a.defers=fdef W∧a.tmps.getD 2 undef = .pointer (some ⟨W.heap.size,0,none⟩)∧a.tmps.getD 3 undef = .pointer (some ⟨W.heap.size+1,0,none⟩)∧zf6 RES l0
 | .ret,a,w=>a.defers=fdef W∧a.tmps.getD 2 undef = .pointer (some ⟨W.heap.size,0,none⟩)∧a.tmps.getD 3 undef = .pointer (some ⟨W.heap.size+1,0,none⟩)∧W.grownBy w none∧∃tb T,w.heap[W.heap.size]? = some (.cells #[.pointer (some ⟨tb,0,none⟩)] 38 (0,0))∧w.heap[W.heap.size+1]? = some (.cells #[.int .i64 0] 22 (0,0))∧RES=some T.norm∧qa T.norm=l0∧yh w tb T∧(∀b∈T.blocks tb,W.heap.size≤b)
 | _,_,_=>False
section
variable {W w : World}
set_option maxRecDepth 100000 in
theorem ztl (h:FB W w):CallsD Tryz.prog 96 #[.pointer (some ⟨W.heap.size,0,none⟩),.pointer (some ⟨W.heap.size+1,0,none⟩)] (.panicking [{ v:=.iface 186 (.agg #[]),recovered:=false }]) w fun e u' w'=>
  e = .returned (.tuple #[])∧u' = .panicking [{ v:=.iface 186 (.agg #[]),recovered:=true }]∧w'.cell? ⟨W.heap.size,0,none⟩=some (.pointer none)∧w'.cell? ⟨W.heap.size+1,0,none⟩=some (.int .i64 2)∧W.grownBy w' none:=by
 obtain⟨v2,h2⟩:=h.b2;obtain⟨v3,h3⟩:=h.b3;have hg:=h.gr;have d2:w.cell? ⟨W.heap.size,0,none⟩=some v2:=by simp[World.cell?,h2]
 have d3:w.cell? ⟨W.heap.size+1,0,none⟩=some v3:=by simp[World.cell?,h3]
 have f2:∀i,w.frozen? ⟨W.heap.size,i,none⟩=false:=fun i=>by simp[World.frozen?,h2]
 have f3:∀i,w.frozen? ⟨W.heap.size+1,i,none⟩=false:=fun i=>by simp[World.frozen?,h3]
 refine callsD_of_wpS Tryz.func96 rfl fun c₀ cs hu=>?_
 apply wpS_seq
 apply wpS_region
 simp[wpOpsS,go_sem,recoverD,hu,Tryz.ntmps96,Exit.thenS];refine(ze3 _).mono ?_;rintro e w1 ⟨rfl,rfl⟩;simp only[Exit.thenS];refine wpS_cond (t:=true) (by simp[Act.eval,Array.replicate]) ?_
 simp only[if_true]
 apply wpS_region
 simp[wpOpsS,go_sem,d2,d3,f2,f3,bodyPostS,results,Tryz.results96]
 exact qi (qi hg (Nat.le_refl _) _) (Nat.le_succ _) _
set_option maxRecDepth 100000 in
theorem from_ok (w:World) (p q:Value):CallsD Tryz.prog 96 #[p,q] .returning w fun e u' w'=>e = .returned (.tuple #[])∧u' = .returning∧w'=w:=by
 refine callsD_of_wpS Tryz.func96 rfl fun c₀ cs hu=>?_
 apply wpS_seq
 apply wpS_region
 simp[wpOpsS,go_sem,recoverD,hu,Tryz.ntmps96,Exit.thenS];refine(ze2 _).mono ?_;rintro e w1 ⟨rfl,rfl⟩;simp only[Exit.thenS];refine wpS_cond (t:=false) (by simp[Act.eval,Array.replicate]) ?_
 simp only[Bool.false_eq_true,if_false];refine wpS_of_wp (wp_skip ?_)
 cases c₀
 simp_all [bodyPostS,results,Tryz.results96]
theorem zon {l0:List Int}:∀e a w,zr W (zd5 l0) l0 e a w→bodyPostD Tryz.prog Tryz.f41 (zlg W l0) e a w:=by
 intro e a w h
 cases e with
 | panic c=>
  obtain⟨rfl,hb,hd,h2,h3,hr⟩:=h;obtain⟨tmps,defers⟩:=a;simp only at hd h2 h3;subst hd;refine leaves_cons (f:=96) (args:=#[.pointer (some ⟨W.heap.size,0,none⟩),.pointer (some ⟨W.heap.size+1,0,none⟩)]) (by simp) (by simp[go_sem]) ?_
  refine(ztl hb).mono ?_;rintro e u' w2 ⟨rfl,rfl,d2,d3,hg⟩;simp only[Array.getD_eq_getD_getElem?] at h2 h3;simp[Leaves,settle,results,Tryz.results41,go_sem,d2,d3,h2,h3]
  exact⟨hg,Or.inr ⟨rfl,hr⟩⟩
 | ret=>
  obtain⟨hd,h2,h3,hg,tb,T,e2,e3,hr,he,hT,hb⟩:=h;obtain⟨tmps,defers⟩:=a;simp only at hd h2 h3;subst hd;have d2:w.cell? ⟨W.heap.size,0,none⟩=some (.pointer (some ⟨tb,0,none⟩)):=by simp[World.cell?,e2]
  have d3:w.cell? ⟨W.heap.size+1,0,none⟩=some (.int .i64 0):=by simp[World.cell?,e3]
  refine leaves_cons (f:=96) (args:=#[.pointer (some ⟨W.heap.size,0,none⟩),.pointer (some ⟨W.heap.size+1,0,none⟩)]) (by simp) (by simp[go_sem]) ?_
  refine(from_ok _ _ _).mono ?_;rintro e u' w2 ⟨rfl,rfl,rfl⟩;simp only[Array.getD_eq_getD_getElem?] at h2 h3;simp[Leaves,settle,results,Tryz.results41,go_sem,d2,d3,h2,h3]
  exact⟨hg,Or.inl ⟨tb,T,rfl,hr,he,hT,hb⟩⟩
 | _=>exact h.elim
end
end Go.Proofs.YtjfelfjobeeenaaGreat
