/- play, TablePlays: the walks. Conditions: none, or as the theorems say. -/
import Derived.Test.YtjfelfjobeeenaaGreatN47
import Derived.Test.YtjfelfjobeeenaaGreatN8
import Derived.Test.YtjfelfjobeeenaaGreatN20
import Derived.Test.YtjfelfjobeeenaaGreatN16
import Derived.Test.YtjfelfjobeeenaaGreatN49
namespace Go.Proofs.YtjfelfjobeeenaaGreat
set_option maxHeartbeats 200000000
set_option linter.unusedVariables false
set_option linter.unusedSimpArgs false
open Go.RowKit Go.Sf Go.Shelf
set_option maxRecDepth 100000 in
theorem zo6 (c:Cmd) (W:World):Calls Tryz.prog 12 #[zp c] W fun e w'=>e = .returned (zp c)∧W.grownBy w' none:=by
 simp only[zp]
 go_enter Tryz.func12,Tryz.ntmps12
 go_wp2;refine bodyPost_ret (v:=zp c) (by simp[zp,results,Tryz.results12,go_sem]) rfl ⟨rfl,by repeat (first|exact zd _|exact zc _ _ _|refine zg ?_ _|refine zf ?_)⟩
theorem Duo.kept {w0 W W':World} {own:Nat→Prop} {tb rb:Nat} {L:Tab} {R:yp} (h:Duo w0 own tb rb L R W) (hg:W.grownBy W' none):zcc own W W':=fun k hk=>hg.block k (h.lt k hk) (by simp)
theorem zcc.sub {own own':Nat→Prop} {W W':World} (h:zcc own W W') (hs:∀k,own' k→own k):zcc own' W W':=fun k hk=>h k (hs k hk)
theorem cmd8 {w:World} {b:Nat} {a0 a1 a2 a3 a4 a5 a6 a7:Value} {t:TypeId} (h:w.heap[b]? = some (.cells #[a0,a1,a2,a3,a4,a5,a6,a7] t (0,0))) :
  w.cell? ⟨b,0,none⟩=some a0∧w.cell? ⟨b,1,none⟩=some a1∧w.cell? ⟨b,2,none⟩=some a2∧w.cell? ⟨b,3,none⟩=some a3∧w.cell? ⟨b,4,none⟩=some a4∧w.cell? ⟨b,5,none⟩=some a5∧w.cell? ⟨b,6,none⟩=some a6∧w.cell? ⟨b,7,none⟩=some a7:=
 ⟨(zh h 0).trans rfl,(zh h 1).trans rfl,(zh h 2).trans rfl,(zh h 3).trans rfl,(zh h 4).trans rfl,(zh h 5).trans rfl,(zh h 6).trans rfl,(zh h 7).trans rfl⟩
section
variable {w0 W : World} {own : Nat → Prop} {tb rb : Nat} {L : Tab} {R : yp}
set_option maxRecDepth 100000 in
theorem zm3 {n k j:Nat} (h:Duo w0 own tb rb L R W) (hb:Ja n k j L R) (hn:n≤1000) (hk:k≤1000) (hj:j≤900) (kind node zvw zvx zvy zvz:Int) (key:ByteArray) (code:Int) (hkey:(key.size:Int)≤9223372036854775807) :
  Calls Tryz.prog 39 #[.pointer (some ⟨tb,0,none⟩),.pointer (some ⟨rb,0,none⟩),.agg #[.int .u8 kind,.int .i64 node,.int .i64 zvw,.int .i64 zvx,.int .i64 zvy,.int .i64 zvz,.string key,.int .i64 code]] W fun e w'=>
   e = .returned (.bool true)∧Duo w0 own tb rb (Xz L ⟨kind,node,zvw,zvx,zvy,zvz,key,code⟩) (zbh R ⟨kind,node,zvw,zvx,zvy,zvz,key,code⟩) w'∧zcc own W w':=by
 obtain⟨c,hc⟩:∃c:Cmd,c=⟨kind,node,zvw,zvx,zvy,zvz,key,code⟩:=⟨_,rfl⟩;have hkc:(c.key.size:Int)≤9223372036854775807:=by rw[hc];exact hkey
 have hcv:zp c = .agg #[.int .u8 kind,.int .i64 node,.int .i64 zvw,.int .i64 zvx,.int .i64 zvy,.int .i64 zvz,.string key,.int .i64 code]:=by rw[hc];rfl
 have hcn:c.node=node:=by rw[hc]
 have HPL:Hid (∀W',Calls Tryz.prog 12 #[.agg #[.int .u8 kind,.int .i64 node,.int .i64 zvw,.int .i64 zvx,.int .i64 zvy,.int .i64 zvz,.string key,.int .i64 code]] W' fun e w'=>e = .returned (.agg #[.int .u8 kind,.int .i64 node,.int .i64 zvw,.int .i64 zvx,.int .i64 zvy,.int .i64 zvz,.string key,.int .i64 code])∧W'.grownBy w' none):=(show ∀_,_ from fun W'=>by have:=zo6 c W';rw[hcv] at this;exact this)
 have HMY:Hid (∀W',Calls Tryz.prog 11 #[.agg #[.int .u8 kind,.int .i64 node,.int .i64 zvw,.int .i64 zvx,.int .i64 zvy,.int .i64 zvz,.string key,.int .i64 code]] W' fun e w'=>e = .returned (.bool (ua c))∧W'.grownBy w' none):=(show ∀_,_ from fun W'=>by have:=zbl c hkc W';rw[hcv] at this;exact this)
 have hN:=hb.sim.s0.N;have hln:=hb.inv.ln;have hx1:=hb.rb.x1;have ho1:=hb.rb.o1;have hnx:=hb.sim.s0.next;have hof:=hb.sim.s0.offers;have HDT:Hid (∀(own':Nat→Prop) (W':World),Duo w0 own' tb rb L R W'→Calls Tryz.prog 22 #[.pointer (some ⟨tb,0,none⟩),.agg #[.int .u8 kind,.int .i64 node,.int .i64 zvw,.int .i64 zvx,.int .i64 zvy,.int .i64 zvz,.string key,.int .i64 code]] W' fun e w'=>e = .returned (.int .i64 (if ua c=true∧node<R.N then 0 else 2))∧Duo w0 own' tb rb (Xz L c) R w'∧zcc own' W' w'):=(show ∀(_:Nat→Prop) (_:World),_→Calls _ _ _ _ _ from fun own' W' hp=>by
  have:=hp.doT hb.inv (by omega) (by omega) (by omega) c hkc
  rw[hcv,hcn,←hN] at this
  exact this)
 have HDR:Hid (ua c=true→node<R.N→∀(own':Nat→Prop) (W':World) (L':Tab),Duo w0 own' tb rb L' R W'→Calls Tryz.prog 60 #[.pointer (some ⟨rb,0,none⟩),.agg #[.int .u8 kind,.int .i64 node,.int .i64 zvw,.int .i64 zvx,.int .i64 zvy,.int .i64 zvz,.string key,.int .i64 code]] W' fun e w'=>e = .returned (.tuple #[])∧Duo w0 own' tb rb L' (rdo R c) w'∧zcc own' W' w'):=(show _→_→∀(_:Nat→Prop) (_:World) (_:Tab),_→Calls _ _ _ _ _ from fun hm hlt own' W' L' hp=>by
  have hkd:=Jm hm;have hok:=hb.rb.rok (by omega) hb.inv hb.sim hn hk
  have:=hp.doR hok c hkd.1 hkd.2.1 hkd.2.2 (by rw[hcn,←hok.nn];exact hlt)
  rw[hcv] at this
  exact this)
 have HBS:Hid (Ja n k (j+1) (Xz L c) (zbh R c)):=(show Ja _ _ _ _ _ from zd3 hb c)
 have HTE:Hid (∀(own':Nat→Prop) (W':World),Duo w0 own' tb rb (Xz L c) (zbh R c) W'→Calls Tryz.prog 83 #[.pointer (some ⟨tb,0,none⟩),.pointer (some ⟨rb,0,none⟩),.agg #[.int .u8 kind,.int .i64 node,.int .i64 zvw,.int .i64 zvx,.int .i64 zvy,.int .i64 zvz,.string key,.int .i64 code]] W' fun e w'=>e = .returned (.bool true)∧W'.grownBy w' none):=(show ∀(_:Nat→Prop) (_:World),_→Calls _ _ _ _ _ from fun own' W' hp=>zss (hp.telling HBS.out hn hk (by omega)) hp.tlt.1 hp.tlt.2 kind node zvw zvx zvy zvz code key)
 have HRA:Hid (zbh R c=if ua c=true∧node<R.N then rdo R c else R):=(show _=_ from by unfold zbh;rw[hcn])
 have HC0:Hid (W.cell? ⟨rb,0,none⟩=some (.int .i64 R.N)):=(show _=_ from (h.telling hb hn hk (by omega)).rc0)
 have HP:=za h;have htb:=h.tlt.1;have hrb:=h.tlt.2;rw[←hc];clear h hb hN hln hx1 ho1 hnx hof hcn hcv hkc hc HBS;generalize Xz L c=L2 at *;generalize zbh R c=R2 at *;generalize rdo R c=R3 at *;generalize hmb:ua c=mb at *;clear hmb;generalize R.N=N at *
 go_enter Tryz.func39,Tryz.ntmps39
 go_upto_region 1 with fail
 have HG0:=za (zc W (.cells #[.int .u8 kind,.int .i64 node,.int .i64 zvw,.int .i64 zvx,.int .i64 zvy,.int .i64 zvz,.string key,.int .i64 code] 24) none);have HB0:=za (heap_alloc_new W (.cells #[.int .u8 kind,.int .i64 node,.int .i64 zvw,.int .i64 zvx,.int .i64 zvy,.int .i64 zvz,.string key,.int .i64 code] 24));have HS0:=za (HP.out.fresh HG0.out W.heap.size (Nat.le_refl _) (by simp))
 have lcb:W.heap.size<(W.alloc (.cells #[.int .u8 kind,.int .i64 node,.int .i64 zvw,.int .i64 zvx,.int .i64 zvy,.int .i64 zvz,.string key,.int .i64 code] 24)).heap.size:=by simp
 have lrb:rb<(W.alloc (.cells #[.int .u8 kind,.int .i64 node,.int .i64 zvw,.int .i64 zvx,.int .i64 zvy,.int .i64 zvz,.string key,.int .i64 code] 24)).heap.size:=by simp;omega
 generalize W.alloc (.cells #[.int .u8 kind,.int .i64 node,.int .i64 zvw,.int .i64 zvx,.int .i64 zvy,.int .i64 zvz,.string key,.int .i64 code] 24)=wa at *;have HCB:Hid (∀k,own k→k<W.heap.size):=(show ∀_,_→_ from HP.out.lt)
 generalize hcb:W.heap.size=cb at *;clear hcb;obtain⟨d0,d1,d2,d3,d4,d5,d6,d7⟩:=cmd8 HB0.out;have r0:wa.cell? ⟨rb,0,none⟩=some (.int .i64 N):=HG0.out.cell HC0.out (by simp)
 go_cut [7] (fun s wx=>s = .bool (mb && decide (node<N))∧wa.grownBy wx none)
 case first=>
  cases mb with
  | false=>
   refine zo (by kernel_rfl) (by kernel_rfl) ?_
   repeat (any_goals (first|go_big_quiet_step ((first|(go_at_call 12;exact zq (HPL.out _))|(go_at_call 11;exact zq (HMY.out _))))|quiet_step ((first|(go_at_call 12;exact zq (HPL.out _))|(go_at_call 11;exact zq (HMY.out _))))))
   refine wpQuiet_nil ?_;intro _ hw';obtain⟨x,hw''⟩:=hw';subst hw''
   go_wp2_with fail
   go_meet
   exact⟨rfl,yf wa x⟩
  | true=>
   generalize hbl:decide (node<N)=bl at *;refine zo (by kernel_rfl) (by kernel_rfl) ?_
   repeat (any_goals (first|go_big_quiet_step ((first|(go_at_call 12;exact zq (HPL.out _))|(go_at_call 11;exact zq (HMY.out _))))|quiet_step ((first|(go_at_call 12;exact zq (HPL.out _))|(go_at_call 11;exact zq (HMY.out _))))))
   refine wpQuiet_nil ?_;intro _ hw';obtain⟨x,hw''⟩:=hw';subst hw''
   go_wp2_with fail
   go_meet
   exact⟨by simp,yf wa x⟩
 case rest=>
  obtain⟨rfl,hgc⟩:=hcut;have HS1:=za (HS0.out.grown hgc);have HB1:=za ((hgc.block cb lcb (by simp)).trans HB0.out)
  have HK1:=za hgc;clear d0 d1 d2 d3 d4 d5 d6 d7 r0 hgc;obtain⟨d0,d1,d2,d3,d4,d5,d6,d7⟩:=cmd8 HB1.out
  by_cases hm:mb=true∧node<N
  ·have hq:(mb && decide (node<N))=true:=by simp[hm.1,hm.2]
   have HDR2:=za (HDR.out hm.1 hm.2);have HR2:Hid (R2=R3):=(show _=_ from by rw[HRA.out,if_pos hm])
   have HDT2:=za (HDT.out _ wc HS1.out);rw[if_pos hm] at HDT2;rw[hq];clear HDR HRA HDT hm hq;rw[HR2.out] at HTE
   go_upto_region 3 with (go_at_call 22;refine HDT2.out.mono ?_;rintro e w2 ⟨rfl,hp,hs⟩;have HP2:=za hp;have HSM:=za hs;clear hp hs)
   have HB2:=za ((HSM.out cb (Or.inr rfl)).trans HB1.out);clear d0 d1 d2 d3 d4 d5 d6 d7;obtain⟨d0,d1,d2,d3,d4,d5,d6,d7⟩:=cmd8 HB2.out
   go_upto_region 5 with (first
    | (go_at_call 12;refine(HPL.out _).mono ?_;rintro e w3 ⟨rfl,hg⟩;have HG3:=za hg;clear hg)
    | (go_at_call 60;refine(HDR2.out _ _ _ (HP2.out.grown HG3.out)).mono ?_;rintro e w4 ⟨rfl,hp,hs⟩;have HP4:=za hp;have HS4:=za hs;clear hp hs))
   have HB4:=za ((HS4.out cb (Or.inr rfl)).trans ((HP2.out.kept HG3.out cb (Or.inr rfl)).trans HB2.out));clear d0 d1 d2 d3 d4 d5 d6 d7;obtain⟨d0,d1,d2,d3,d4,d5,d6,d7⟩:=cmd8 HB4.out
   go_wp2_with (go_at_call 83;refine(HTE.out _ _ HP4.out).mono ?_;rintro e w5 ⟨rfl,hg⟩;have HG5:=za hg;clear hg)
   go_ret
   refine⟨rfl,?_,?_⟩
   ·rw[HR2.out]
    exact(HP4.out.grown HG5.out).less fun k hk=>Or.inl hk
   ·refine(HP.out.kept (ze HG0.out HK1.out)).trans ((HSM.out.sub fun k hk=>Or.inl hk).trans (((HP2.out.kept HG3.out).sub fun k hk=>Or.inl hk).trans ((HS4.out.sub fun k hk=>Or.inl hk).trans ((HP4.out.kept HG5.out).sub fun k hk=>Or.inl hk))))
  ·have hq:(mb && decide (node<N))=false:=by
    cases mb <;> simp at hm ⊢;omega
   have HR2:Hid (R2=R):=(show _=_ from by rw[HRA.out,if_neg hm])
   have HDT2:=za (HDT.out _ wc HS1.out);rw[if_neg hm] at HDT2;rw[hq];clear HDR HRA HDT hm hq;rw[HR2.out] at HTE
   go_upto_region 3 with (go_at_call 22;refine HDT2.out.mono ?_;rintro e w2 ⟨rfl,hp,hs⟩;have HP2:=za hp;have HSM:=za hs;clear hp hs)
   have HB2:=za ((HSM.out cb (Or.inr rfl)).trans HB1.out);clear d0 d1 d2 d3 d4 d5 d6 d7;obtain⟨d0,d1,d2,d3,d4,d5,d6,d7⟩:=cmd8 HB2.out
   go_wp2_with (go_at_call 83;refine(HTE.out _ _ HP2.out).mono ?_;rintro e w5 ⟨rfl,hg⟩;have HG5:=za hg;clear hg)
   go_ret
   refine⟨rfl,?_,?_⟩
   ·rw[HR2.out]
    exact(HP2.out.grown HG5.out).less fun k hk=>Or.inl hk
   ·refine(HP.out.kept (ze HG0.out HK1.out)).trans ((HSM.out.sub fun k hk=>Or.inl hk).trans ((HP2.out.kept HG5.out).sub fun k hk=>Or.inl hk))
end
theorem duo_new {w w1 w2:World} {tb rb:Nat} {L:Tab} {R:yp} (hg0:w.grownBy w1 none) (hA:At (fun k=>w.heap.size≤k) w1 tb L) (hR:RAt (fun k=>w1.heap.size≤k) w2 rb R) (hg:w1.grownBy w2 none):Duo w (fun _=>False) tb rb L R w2:=by
 refine⟨⟨fun k=>w1.heap.size≤k∧k<w2.heap.size,?_,?_,fun k hk=>⟨hk.2,fun e=>e⟩⟩,fun k hk=>hk.elim,ze hg0 hg⟩
 ·exact(hA.mono fun k hk hb=>⟨hb,fun e=>e,fun e=>by omega⟩).grown hg
 ·exact hR.mono fun k hk hb=>⟨Nat.le_trans hg0.size hb,hb,hk⟩
set_option maxRecDepth 100000 in
theorem zen (a b:Nat) (ha:a≤255) (hb:b≤255) (v:Value) (l:List Cmd) (w:World) (h:Xg w w.heap.size v l) :
  Calls Tryz.prog 7 #[.int .u8 a,.int .u8 b,v] w fun e w'=>e = .returned (.bool true)∧w.grownBy w' none:=by
 obtain⟨n,hn⟩:∃n:Nat,n=a%14:=⟨_,rfl⟩;obtain⟨k,hk⟩:∃k:Nat,k=b%14:=⟨_,rfl⟩;have hn14:n<14:=by omega
 have hk14:k<14:=by omega
 have e1:(a:Int)%14=(n:Int):=by omega
 have e2:(b:Int)%14=(k:Int):=by omega
 obtain⟨N,hN⟩:∃N:Nat,(N:Int)=vm n:=⟨(vm n).toNat,by unfold vm;split <;> (try split) <;> omega⟩
 have hN1:1≤N∧N≤13:=by unfold vm at hN;split at hN <;> (try split at hN) <;> omega
 obtain⟨K,hK⟩:∃K:Nat,yu N k=K:=⟨(yu N k).toNat,by unfold yu;split <;> (try split) <;> omega⟩
 have hK1:K≤13:=by unfold yu at hK;split at hK <;> (try split at hK) <;> omega
 have HNW:Hid (∀W,w.grownBy W none→Calls Tryz.prog 30 #[.int .i64 n,.int .i64 k] W fun e w'=>∃tb,e = .returned (.pointer (some ⟨tb,0,none⟩))∧At (fun k=>w.heap.size≤k) w' tb (qn N k 0).norm∧W.grownBy w' none):=(fun W hg=>
  (zel (bs:=fun k=>w.heap.size≤k) n k N hN W (fun _ h=>Nat.le_trans hg.size h)).mono fun e w' ⟨tb,h1,h2,h3,h4⟩=>⟨tb,h1,h3,h4⟩)
 have HRW:Hid (∀W,Calls Tryz.prog 38 #[.int .i64 n,.int .i64 k] W fun e w'=>∃rb,e = .returned (.pointer (some ⟨rb,0,none⟩))∧RAt (fun k=>W.heap.size≤k) w' rb (zce N (yu N k))∧W.grownBy w' none):=(show ∀_,_ from fun W=>znk n k N hN W (fun k=>W.heap.size≤k) (fun _ h=>h))
 have HBO:Hid (Ja N K 0 (qn N k 0).norm (zce N (yu N k))):=(show Ja _ _ _ _ _ from ⟨zkh N k K hK,zqq N k,zu1 N _⟩)
 have HLG:Hid (Calls Tryz.prog 29 #[v] w fun e w'=>∃r,e = .returned (.bool r)∧w.grownBy w' none∧(r=false→l.length≤80)):=zeg v l _ w h
 have HV:=za h;have HB:Hid (N≤13∧K≤13):=(show _∧_ from ⟨hN1.2,hK1⟩)
 clear hN hK hN1 hK1 hn hk h
 go_enter Tryz.func7,Tryz.ntmps7
 go_wp2_with (first
  | (go_at_call 29;refine HLG.out.mono ?_;rintro e w1 ⟨r,rfl,hg,hr⟩;have HG:=za hg;have HR:=za hr;clear hg hr HLG)
  | (go_at_call 10;refine(qd _).mono ?_;rintro e w2 ⟨rfl,hg⟩;have HG2:=za hg;clear hg)
  | (go_at_call 30;refine(HNW.out _ HG.out).mono ?_;rintro e w2 ⟨tb,rfl,hA,hg⟩;have HA:=za hA;have HG2:=za hg;clear hA hg)
  | (go_at_call 38;refine(HRW.out _).mono ?_;rintro e w3 ⟨rb,rfl,hA,hg⟩;have HRA:=za hA;have HG3:=za hg;clear hA hg))
 ·go_ret
  exact⟨rfl,ze HG.out HG2.out⟩
 ·have hlen:=HR.out (by assumption)
  have HT0:Hid (Duo w (fun _=>False) tb rb (qn N k 0).norm (zce N (yu N k)) w3):=(show Duo _ _ _ _ _ _ _ from duo_new (ze HG.out HG2.out) HA.out HRA.out HG3.out)
  clear HA HG HG2 HNW HR HRA HG3 HRW;obtain⟨p,cap,rfl,hlen2,hks,hrow⟩:=HV.out;have HROW:=za hrow;have HKS:=za hks;clear HV hrow hks hlen2;have HD:Hid (∀i c,i<l.length→l.getD i wkD=c→(c.key.size:Int)≤9223372036854775807):=(fun i c hi hc=>HKS.out c (by rw[←hc];simp only[List.getD_eq_getElem?_getD,List.getElem?_eq_getElem hi,Option.getD_some];exact List.getElem_mem hi))
  clear HKS;generalize hm:l.length=m at *;generalize (qn N k 0).norm=L0 at *;generalize zce N (yu N k)=R0 at *
  go_loopw [11] (fun i wr=>∃(j:Nat) (L:Tab) (R:yp),j≤m∧i = .int .i64 j∧Duo w (fun _=>False) tb rb L R wr∧Ja N K j L R) (fun i _=>m-(intOf i).toNat)
  case atStart=>exact⟨0,_,_,Nat.zero_le _,rfl,HT0.out,HBO.out⟩
  case round=>
   obtain⟨j,L,R,hj,rfl,hduo,hboth⟩:=hrel
   rcases Nat.lt_or_ge j m with hlt|hge
   ·rcases HROW.out with h0|⟨b,off,rfl,hb,hc⟩
    ·subst h0;simp at hm;omega
    ·have hcell:=hc j hlt
     have hk:=HD.out j _ (by omega) rfl
     generalize l.getD j wkD=c at *;obtain⟨kind,node,zvw,zvx,zvy,zvz,key,code⟩:=c;have c0:=hduo.base.cell (hcell 0 _ rfl) (by simp)
     have c1:=hduo.base.cell (hcell 1 _ rfl) (by simp)
     have c2:=hduo.base.cell (hcell 2 _ rfl) (by simp)
     have c3:=hduo.base.cell (hcell 3 _ rfl) (by simp)
     have c4:=hduo.base.cell (hcell 4 _ rfl) (by simp)
     have c5:=hduo.base.cell (hcell 5 _ rfl) (by simp)
     have c6:=hduo.base.cell (hcell 6 _ rfl) (by simp)
     have c7:=hduo.base.cell (hcell 7 _ rfl) (by simp)
     simp only[Nat.add_zero] at c0 c1 c2 c3 c4 c5 c6 c7;have HDU:=za hduo;have HBT:=za hboth;have HNB:=za (zd3 hboth ⟨kind,node,zvw,zvx,zvy,zvz,key,code⟩);clear hduo hboth hcell hc HT0 HBO
     go_wp2_with (go_at_call 39;refine(zm3 HDU.out HBT.out (by have:=HB.out;omega) (by have:=HB.out;omega) (by omega) kind node zvw zvx zvy zvz key code hk).mono ?_;rintro e w4 ⟨rfl,hp,hs⟩;have HP:=za hp;clear hp hs)
     go_roundw
     case rel=>exact⟨j+1,_,_,by omega,by go_num,HP.out,HNB.out⟩
     case measure=>simp[intOf];omega
   ·go_wp2_with (go_at_call 10;refine(qd _).mono ?_;rintro e w5 ⟨rfl,hg⟩;have HG5:=za hg;clear hg)
    go_ret
    exact⟨rfl,ze hduo.base HG5.out⟩
structure za2 (w0:World) (own:Nat→Prop) (tb ub rb:Nat) (L U:Tab) (R:yp) (W:World):Prop where
 duo:Duo w0 own tb rb L R W
 u:At own W ub U
 lo:∀k,own k→w0.heap.size≤k
section
variable {w0 W W' : World} {own : Nat → Prop} {tb ub rb g : Nat} {L U L' : Tab} {R : yp} {n k j : Nat}
theorem za2.grown (h:za2 w0 own tb ub rb L U R W) (hg:W.grownBy W' none):za2 w0 own tb ub rb L U R W':=⟨h.duo.grown hg,h.u.grown hg,h.lo⟩
theorem Duo.turn (h:Duo w0 own tb rb L R W) (ht:yc own W W') (hlo:∀k,own k→w0.heap.size≤k):Duo w0 own tb rb L R W':=by
 obtain⟨q,h1,h2,h3⟩:=h.ex;refine⟨⟨q,h1.same fun k hk hb=>ht.block k hk hb.2.1,RAt.turn (cs:=fun _=>True) h2 fun k hk hb=>ht.block k hk (h3 k hb.2).2,fun k hk=>⟨Nat.lt_of_lt_of_le (h3 k hk).1 ht.size,(h3 k hk).2⟩⟩,fun k hk=>Nat.lt_of_lt_of_le (h.lt k hk) ht.size,ju h.base ht fun k hk e=>by have:=hlo k e;omega⟩
structure Jb (w0:World) (own:Nat→Prop) (tb ub rb g:Nat) (L U:Tab) (R:yp) (W:World):Prop where
 duo:Duo w0 (fun k=>own k∨k=g) tb rb L R W
 u:At own W ub U
 lo:∀k,own k→w0.heap.size≤k
 ng:¬own g
 hg:w0.heap.size≤g
theorem za2.fresh (h:za2 w0 own tb ub rb L U R W) (hg:W.grownBy W' none) (g:Nat) (hge:W.heap.size≤g) (hlt:g<W'.heap.size):Jb w0 own tb ub rb g L U R W':=
 ⟨h.duo.fresh hg g hge hlt,h.u.grown hg,h.lo,fun e=>by have:=h.duo.lt g e;omega,Nat.le_trans h.duo.base.size hge⟩
theorem Jb.grown (h:Jb w0 own tb ub rb g L U R W) (hg:W.grownBy W' none):Jb w0 own tb ub rb g L U R W':=⟨h.duo.grown hg,h.u.grown hg,h.lo,h.ng,h.hg⟩
theorem Jb.less (h:Jb w0 own tb ub rb g L U R W):za2 w0 own tb ub rb L U R W:=⟨h.duo.less fun k hk=>Or.inl hk,h.u,h.lo⟩
theorem Jb.turn (h:Jb w0 own tb ub rb g L U R W) (ht:yc (fun k=>k=g) W W'):Jb w0 own tb ub rb g L U R W':=
 ⟨h.duo.turn (ht.wide fun k e=>Or.inr e) (fun k hk=>hk.elim (h.lo k) (fun e=>by rw[e];exact h.hg)),h.u.same fun k hk ho=>ht.block k hk (fun e=>h.ng (by have e2:k=g:=e;rw[←e2];exact ho)),h.lo,h.ng,h.hg⟩
theorem Jb.swap {tb':Nat} (h:Jb w0 own tb ub rb g L U R W) (hg:W.grownBy W' none) (hA:At (fun b=>W.heap.size≤b) W' tb' L'):Jb w0 own tb' ub rb g L' U R W':=by
 obtain⟨q,h1,h2,h3⟩:=h.duo.ex;refine⟨⟨⟨q,hA.mono fun k _ hb=>⟨Nat.le_trans h.duo.base.size hb,fun e=>by have:=h.duo.lt k e;omega,fun e=>by have:=(h3 k e).1;omega⟩,h2.grown hg,fun k hk=>⟨Nat.lt_of_lt_of_le (h3 k hk).1 hg.size,(h3 k hk).2⟩⟩,fun k hk=>Nat.lt_of_lt_of_le (h.duo.lt k hk) hg.size,ze h.duo.base hg⟩,h.u.grown hg,h.lo,h.ng,h.hg⟩
theorem za2.doU (h:za2 w0 own tb ub rb L U R W) (hI:Inv n k U) (hn:n≤1000000) (ho:U.offers<1000000) (hx:U.next<1000000) (c:Cmd) (hkey:(c.key.size:Int)≤9223372036854775807) :
  Calls Tryz.prog 22 #[.pointer (some ⟨ub,0,none⟩),zp c] W fun e w'=>(∃z,e = .returned (.int .i64 z))∧∃own',za2 w0 own' tb ub rb L (Xz U c) R w':=by
 refine(zj8 (bs:=fun k=>own k∨W.heap.size≤k) (h.u.mono fun k _ hk=>Or.inl hk) hI hn ho hx c hkey (fun k hk=>Or.inr hk)).mono ?_
 rintro e w' ⟨rfl,hA,hO⟩;refine⟨⟨_,rfl⟩,fun k=>own k∨(W.heap.size≤k∧k<w'.heap.size),?_⟩
 obtain⟨q,h1,h2,h3⟩:=h.duo.ex;have hnb:∀k,k<W.heap.size→¬own k→w'.heap[k]? = W.heap[k]?:=fun k hk hn=>hO.block k hk (fun e=>e.elim hn (fun e=>by omega))
 have hlo:∀k,(own k∨(W.heap.size≤k∧k<w'.heap.size))→w0.heap.size≤k:=fun k hk=>hk.elim (h.lo k) (fun e=>Nat.le_trans h.duo.base.size e.1)
 refine⟨⟨⟨q,?_,?_,fun k hk=>⟨Nat.lt_of_lt_of_le (h3 k hk).1 hO.size,fun e=>e.elim (h3 k hk).2 (fun e=>by have:=(h3 k hk).1;omega)⟩⟩,fun k hk=>hk.elim (fun e=>Nat.lt_of_lt_of_le (h.duo.lt k e) hO.size) (fun e=>e.2),?_⟩,hA.mono fun k hk hb=>hb.imp id (fun e=>⟨e,hk⟩),hlo⟩
 ·exact(h1.mono (cs:=fun k=>w0.heap.size≤k∧(¬own k∧k<W.heap.size)∧¬q k) fun k hk hb=>⟨hb.1,⟨hb.2.1,hk⟩,hb.2.2⟩).same (fun k hk hb=>hnb k hk hb.2.1.1) |>.mono fun k _ hb=>⟨hb.1,fun e=>e.elim hb.2.1.1 (fun e=>by have:=hb.2.1.2;omega),hb.2.2⟩
 ·exact RAt.turn (cs:=fun _=>True) h2 fun k hk hb=>hnb k hk (h3 k hb.2).2
 ·exact⟨hO.os.trans h.duo.base.os,hO.tape.trans h.duo.base.tape,hO.output.trans h.duo.base.output,Nat.le_trans h.duo.base.size hO.size,fun k hk _=>(hnb k (Nat.lt_of_lt_of_le hk h.duo.base.size) (fun e=>by have:=h.lo k e;omega)).trans (h.duo.base.block k hk (by simp))⟩
theorem za2.play (h:za2 w0 own tb ub rb L U R W) (hb:Ja n k j L R) (hn:n≤1000) (hk:k≤1000) (hj:j≤900) (kind node zvw zvx zvy zvz:Int) (key:ByteArray) (code:Int) (hkey:(key.size:Int)≤9223372036854775807) :
  Calls Tryz.prog 39 #[.pointer (some ⟨tb,0,none⟩),.pointer (some ⟨rb,0,none⟩),.agg #[.int .u8 kind,.int .i64 node,.int .i64 zvw,.int .i64 zvx,.int .i64 zvy,.int .i64 zvz,.string key,.int .i64 code]] W fun e w'=>
   e = .returned (.bool true)∧za2 w0 own tb ub rb (Xz L ⟨kind,node,zvw,zvx,zvy,zvz,key,code⟩) U (zbh R ⟨kind,node,zvw,zvx,zvy,zvz,key,code⟩) w':=by
 refine(zm3 h.duo hb hn hk hj kind node zvw zvx zvy zvz key code hkey).mono ?_;rintro e w' ⟨rfl,hp,hs⟩
 exact⟨rfl,hp,h.u.same fun k _ ho=>hs k ho,h.lo⟩
theorem Duo.atT (h:Duo w0 own tb rb L R W):∃bs,At bs W tb L:=by obtain⟨q,h1,_⟩:=h.ex;exact⟨_,h1⟩
theorem za2.bytesT (h:za2 w0 own tb ub rb L U R W) (hf:zd1 L):Calls Tryz.prog 40 #[.pointer (some ⟨tb,0,none⟩)] W fun e w'=>∃v,e = .returned v∧w'.ownsRow W.heap.size 5 1 v (qa L).length (zu (qa L))∧W.grownBy w' none:=by
 obtain⟨bs,hA⟩:=h.duo.atT
 exact zc6 hA hf
end
end Go.Proofs.YtjfelfjobeeenaaGreat
