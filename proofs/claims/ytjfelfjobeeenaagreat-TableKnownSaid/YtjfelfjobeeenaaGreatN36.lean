/- TableRises answers true: the walk. Conditions: none, or as the theorems say. -/
import Derived.Test.YtjfelfjobeeenaaGreatN35
import Derived.Deep.RegionHeld3
import Derived.Deep.DeepCutAuto
namespace Go.Proofs.YtjfelfjobeeenaaGreat
set_option maxHeartbeats 200000000
set_option linter.unusedVariables false
set_option linter.unusedSimpArgs false
open Go.RowKit Go.Sf Go.Shelf
attribute [local irreducible] World.alloc World.drew World.cell? World.frozen? in
set_option maxRecDepth 100000 in
theorem zpf (nd wi:Nat) (hn:nd<256) (hw:wi<256) (v:Value) (l:List Cmd) (w:World) (h:Xg w w.heap.size v l) :
  Calls Tryz.prog 6 #[.int .u8 nd,.int .u8 wi,v] w fun e w'=>e = .returned (.bool true)∧w.grownBy w' none:=by
 have e1:(nd:Int).tmod 12=((nd%12:Nat):Int):=rfl;have e2:(wi:Int).tmod 12=((wi%12:Nat):Int):=rfl;have hr1:nd%12<12:=Nat.mod_lt _ (by omega)
 have hr2:wi%12<12:=Nat.mod_lt _ (by omega)
 generalize nd%12=a at *;generalize wi%12=b at *;obtain⟨n,hna⟩:∃n,n=1+a:=⟨_,rfl⟩;have e4:(1:Int)+(a:Int)=(n:Int):=by omega
 have hm:=Nat.mod_lt b (show 0<n by omega)
 have e5:(b:Int)%(n:Int)=((b%n:Nat):Int):=rfl;generalize b%n=m at *;obtain⟨k,hkm⟩:∃k,k=1+m:=⟨_,rfl⟩;have e6:(1:Int)+(m:Int)=(k:Int):=by omega
 have HB:Hid (n≤12∧1≤n∧k≤n∧1≤k):=(show _∧_ from ⟨by omega,by omega,by omega,by omega⟩)
 have HNW:Hid (∀W,Calls Tryz.prog 30 #[.int .i64 n,.int .i64 k] W fun e w'=>∃tb,e = .returned (.pointer (some ⟨tb,0,none⟩))∧W.heap.size≤tb∧At (fun k=>W.heap.size≤k) w' tb (qn n k 0).norm∧W.grownBy w' none):=(fun W=>
  zel (bs:=fun k=>W.heap.size≤k) n k n (by unfold vm;rw[if_neg (by omega),if_neg (by omega)]) W (fun _ h=>h))
 have HCW:Hid (yu n k=k):=(show _=_ from by unfold yu;rw[if_neg (by omega),if_neg (by omega)])
 have HINV:Hid (Inv n k (qn n k 0).norm):=zkh n k k HCW.out;have E4:=za e4;have E6:Hid (wrap64 (1+(b:Int)%(n:Int))=(k:Int)):=(show _=_ from by rw[e5,e6];unfold wrap64;omega)
 have HLG:Hid (Calls Tryz.prog 29 #[v] w fun e w'=>∃r,e = .returned (.bool r)∧w.grownBy w' none∧(r=false→l.length≤80)):=zeg v l _ w h
 have HV:=za h;clear hna hkm hm e4 e5 e6 h
 go_enter Tryz.func6,Tryz.ntmps6
 go_wp2_with (first
  | (go_at_call 29;refine HLG.out.mono ?_;rintro e w1 ⟨r,rfl,hg,hr⟩;have HG:=za hg;have HR:=za hr;clear hg hr HLG)
  | (go_at_call 10;refine(qd _).mono ?_;rintro e w2 ⟨rfl,hg⟩;have HG2:=za hg;clear hg)
  | (go_at_call 30;rw[E4.out,E6.out];refine(HNW.out _).mono ?_;rintro e w2 ⟨tb,rfl,hle,hA,hg⟩;have HA:=za hA;have HG2:=za hg;clear hA hg))
 ·go_ret
  exact⟨rfl,ze HG.out HG2.out⟩
 ·have hlen:=HR.out (by assumption)
  have HT0:Hid (Top w n k tb (qn n k 0).norm (.slice none 0 0) [] 0 w2):=(show Top _ _ _ _ _ _ _ _ _ from
   ⟨⟨HA.out.mono (fun b _ hb=>⟨by have:=HG.out.size;omega,by simp[Value.ownBlock]⟩),ze HG.out HG2.out,fun g hg=>by simp[Value.ownBlock] at hg⟩,HINV.out,fun x _=>rfl,Int.le_refl _,Int.le_refl _,World.ownsRow_nil _ _ _ _,by simp,by simp⟩)
  clear HA HG HG2 HNW E4 E6 HR HCW HINV;obtain⟨p,cap,rfl,hlen2,hks,hrow⟩:=HV.out;have HROW:=za hrow;have HKS:=za hks;clear HV hrow hks hlen2;have HD:Hid (∀i c,i<l.length→l.getD i wkD=c→(c.key.size:Int)≤9223372036854775807):=(fun i c hi hc=>HKS.out c (by rw[←hc];simp only[List.getD_eq_getElem?_getD,List.getElem?_eq_getElem hi,Option.getD_some];exact List.getElem_mem hi))
  clear HKS;generalize hm:l.length=m at *
  go_loopw [10,11] (fun lost i wr=>∃(j:Nat) (L:Tab) (lostL:List ID),j≤m∧i = .int .i64 j∧Top w n k tb L lost lostL j wr) (fun _ i _=>m-(intOf i).toNat)
  case atStart=>exact⟨0,_,[],Nat.zero_le _,rfl,HT0.out⟩
  case round=>as_aux_lemma=>
   obtain⟨j,L,lostL,hj,rfl,htop⟩:=hrel
   rcases Nat.lt_or_ge j m with hlt|hge
   ·rcases HROW.out with h0|⟨b,off,rfl,hb,hc⟩
    ·subst h0;simp at hm;omega
    ·have hcell:=hc j hlt
     have hk:=HD.out j _ (by omega) rfl
     generalize l.getD j wkD=c at *;obtain⟨kind,node,zvw,zvx,zvy,zvz,key,code⟩:=c;have c0:=htop.st.base.cell (hcell 0 _ rfl) (by simp)
     have c1:=htop.st.base.cell (hcell 1 _ rfl) (by simp)
     have c2:=htop.st.base.cell (hcell 2 _ rfl) (by simp)
     have c3:=htop.st.base.cell (hcell 3 _ rfl) (by simp)
     have c4:=htop.st.base.cell (hcell 4 _ rfl) (by simp)
     have c5:=htop.st.base.cell (hcell 5 _ rfl) (by simp)
     have c6:=htop.st.base.cell (hcell 6 _ rfl) (by simp)
     have c7:=htop.st.base.cell (hcell 7 _ rfl) (by simp)
     simp only[Nat.add_zero] at c0 c1 c2 c3 c4 c5 c6 c7;have HTOP:=za htop;clear htop hcell hc HT0
     go_upto_region 11 with fail
     have HS1:Hid (RSt w (fun b=>u10.ownBlock=some b∨b=wr.heap.size) tb L (wr.alloc (.cells #[.int .u8 kind,.int .i64 node,.int .i64 zvw,.int .i64 zvx,.int .i64 zvy,.int .i64 zvz,.string key,.int .i64 code] 24))):=HTOP.out.st.fresh (zc _ _ _) wr.heap.size (Nat.le_refl _) (by simp)
     have k2:(wr.alloc (.cells #[.int .u8 kind,.int .i64 node,.int .i64 zvw,.int .i64 zvx,.int .i64 zvy,.int .i64 zvz,.string key,.int .i64 code] 24)).cell? ⟨wr.heap.size,2,none⟩=some (.int .i64 zvw):=by simp[go_sem]
     have HB1:Hid (wr.grownBy (wr.alloc (.cells #[.int .u8 kind,.int .i64 node,.int .i64 zvw,.int .i64 zvx,.int .i64 zvy,.int .i64 zvz,.string key,.int .i64 code] 24)) none∧(wr.alloc (.cells #[.int .u8 kind,.int .i64 node,.int .i64 zvw,.int .i64 zvx,.int .i64 zvy,.int .i64 zvz,.string key,.int .i64 code] 24)).heap[wr.heap.size]? = some (.cells #[.int .u8 kind,.int .i64 node,.int .i64 zvw,.int .i64 zvx,.int .i64 zvy,.int .i64 zvz,.string key,.int .i64 code] 24 (0,0))∧(wr.alloc (.cells #[.int .u8 kind,.int .i64 node,.int .i64 zvw,.int .i64 zvx,.int .i64 zvy,.int .i64 zvz,.string key,.int .i64 code] 24)).heap.size=wr.heap.size+1):=(show _∧_ from ⟨zc _ _ _,World.alloc_heap_new wr _,by simp⟩)
     generalize wr.alloc (.cells #[.int .u8 kind,.int .i64 node,.int .i64 zvw,.int .i64 zvx,.int .i64 zvy,.int .i64 zvz,.string key,.int .i64 code] 24)=W1 at *;have HG1:Hid (W1.grownBy W1 none):=zd W1
     go_cut [13,14,15] (fun nx bp pv wx=>nx = .int .i64 L.next∧∃(g2:Nat) (pl:List ID),bp = .pointer (some ⟨g2,0,none⟩)∧RdS w tb L ⟨kind,node,zvw,zvx,zvy,zvz,key,code⟩ (callV L zvw) u10 lostL wr.heap.size g2 pv pl wx∧pl.Perm (L.pending.map (·.1)))
     case first=>as_aux_lemma=>
      go_region_held3 (fun w'=>w'.cell? ⟨wr.heap.size,2,none⟩=some (.int .i64 zvw)) (first|assumption|go_keep)
       (first
       | (go_at_call 32;refine((HS1.out.grown (by repeat (first|exact zd _|refine zg ?_ _|refine zf ?_))).call zvw _ rfl).mono ?_;rintro e w3 ⟨rfl,hq,hg⟩;(try (have zn:=zd2 hg (ze HG1.out (by repeat (first|exact zd _|refine zg ?_ _|refine zf ?_))) HB1.out.2.2;have zm:=zn.1;have zl:=zn.2.1;have zk:=zn.2.2;clear zn));(try (have zn:=zgf hg (ze HG1.out (by repeat (first|exact zd _|refine zg ?_ _|refine zf ?_))) HB1.out.2.2;have zm:=zn.1;have zl:=zn.2.1;have zk:=zn.2.2;clear zn));have k3:=hg.cell (a:=⟨wr.heap.size,2,none⟩) (v:=.int .i64 zvw) (by assumption) (by simp);replace HG1:=za (ze (ze HG1.out (by repeat (first|exact zd _|refine zg ?_ _|refine zf ?_))) hg);replace HS1:=za hq;(try (have zb:=zaj zb hg;obtain⟨z0,z1,z2,z3,y0,y1,y2,y3⟩:=zh8 zb));(try (have zb:=za5 hg;obtain⟨z0,z1,z2,z3,y0,y1,y2,y3⟩:=zh8 zb));(try (have zb:=zcl hg;obtain⟨z0,z1,z2,z3,y0,y1,y2,y3⟩:=zh8 zb));clear hq hg)
       | (go_at_call 33;refine((HS1.out.grown (by repeat (first|exact zd _|refine zg ?_ _|refine zf ?_))).pending (by have:=HTOP.out.inv.pend_len;have:=HTOP.out.nx;omega)).mono ?_;rintro e w3 ⟨pv,pl,rfl,hp,hpg,hq,hg⟩;have HP:=za hp;have HPG:Hid (∀g,pv.ownBlock=some g→W1.heap.size≤g):=(fun g h=>Nat.le_trans (ze HG1.out (by repeat (first|exact zd _|refine zg ?_ _|refine zf ?_))).size (hpg g h));clear hpg;(try (have zn:=zd2 hg (ze HG1.out (by repeat (first|exact zd _|refine zg ?_ _|refine zf ?_))) HB1.out.2.2;have zm:=zn.1;have zl:=zn.2.1;have zk:=zn.2.2;clear zn));(try (have zn:=zgf hg (ze HG1.out (by repeat (first|exact zd _|refine zg ?_ _|refine zf ?_))) HB1.out.2.2;have zm:=zn.1;have zl:=zn.2.1;have zk:=zn.2.2;clear zn));have k3:=hg.cell (a:=⟨wr.heap.size,2,none⟩) (v:=.int .i64 zvw) (by assumption) (by simp);replace HG1:=za (ze (ze HG1.out (by repeat (first|exact zd _|refine zg ?_ _|refine zf ?_))) hg);replace HS1:=za hq;(try (have zb:=zaj zb hg;obtain⟨z0,z1,z2,z3,y0,y1,y2,y3⟩:=zh8 zb));(try (have zb:=za5 hg;obtain⟨z0,z1,z2,z3,y0,y1,y2,y3⟩:=zh8 zb));(try (have zb:=zcl hg;obtain⟨z0,z1,z2,z3,y0,y1,y2,y3⟩:=zh8 zb));clear hq hg hp)
       | (go_at_call 31;refine((HS1.out.grown (by repeat (first|exact zd _|refine zg ?_ _|refine zf ?_))).next _ rfl).mono ?_;rintro e w3 ⟨rfl,hq,hg⟩;(try (have zn:=zd2 hg (ze HG1.out (by repeat (first|exact zd _|refine zg ?_ _|refine zf ?_))) HB1.out.2.2;have zm:=zn.1;have zl:=zn.2.1;have zk:=zn.2.2;clear zn));(try (have zn:=zgf hg (ze HG1.out (by repeat (first|exact zd _|refine zg ?_ _|refine zf ?_))) HB1.out.2.2;have zm:=zn.1;have zl:=zn.2.1;have zk:=zn.2.2;clear zn));have k3:=hg.cell (a:=⟨wr.heap.size,2,none⟩) (v:=.int .i64 zvw) (by assumption) (by simp);replace HG1:=za (ze (ze HG1.out (by repeat (first|exact zd _|refine zg ?_ _|refine zf ?_))) hg);replace HS1:=za hq;(try (have zb:=zaj zb hg;obtain⟨z0,z1,z2,z3,y0,y1,y2,y3⟩:=zh8 zb));(try (have zb:=za5 hg;obtain⟨z0,z1,z2,z3,y0,y1,y2,y3⟩:=zh8 zb));(try (have zb:=zcl hg;obtain⟨z0,z1,z2,z3,y0,y1,y2,y3⟩:=zh8 zb));clear hq hg))
      all_goals
       go_wp2_with fail
       go_meet
       first
        | exact⟨rfl,_,pl,rfl,mk_rd HTOP.out HB1.out HG1.out HS1.out HP.out.1 HPG.out HG1.out.size (Or.inl (Nat.le_refl _)) (zor (zc _ _ _) _) (World.alloc_heap_new _ _),HP.out.2.1⟩
        | exact⟨rfl,_,pl,rfl,mk_rd HTOP.out HB1.out HG1.out HS1.out HP.out.1 HPG.out zk (Or.inr ⟨_,zb⟩) (set4 zb _ _ _ _).2 (set4 zb _ _ _ _).1,HP.out.2.1⟩
     case rest=>as_aux_lemma=>
      obtain⟨rfl,g2,pl,rfl,hrd,hperm⟩:=hcut;obtain⟨hn12,hn1,hkn,hk0⟩:=HB.out;obtain⟨i0,hi,hz0,hz1,hz2⟩:=info_parts infoI64;have HPERM:=za hperm;have HRD:=za hrd;have d6:wc.cell? ⟨wr.heap.size,6,none⟩=some (.string key):=(zh hrd.bx.c 6).trans rfl;have HLL:Hid (L.zv0.length≤1000000):=(show _≤_ from by rw[HTOP.out.inv.ln];omega)
      clear hrd hperm k2 HS1 HB1 HG1;generalize hg1:wr.heap.size=g1 at *
      go_wp2_with (go_at_call 34;refine(HRD.out.st.look key _ rfl).mono ?_;rintro e w3 ⟨rfl,hq,hg⟩;replace HRD:=za (HRD.out.grown hg);clear hq hg d6)
      go_loopw [17,18] (fun lv i wl=>∃a:Nat,a≤n∧i = .int .i64 a∧w3.grownBy wl none∧wl.ownsRow w3.heap.size 2 1 lv a (zdh L a)) (fun _ i _=>n-(intOf i).toNat)
      case atStart=>exact⟨0,Nat.zero_le _,rfl,zd _,World.ownsRow_nil _ _ _ _⟩
      case round=>as_aux_lemma=>
       obtain⟨x,hx,rfl,hgl,hrow⟩:=hrel;have HGL:=za hgl
       rcases Nat.lt_or_ge x n with hlt|hge
       ·have HROWL:Hid (∀W,wr.grownBy W none→W.ownsRow w3.heap.size 2 1 u17 x (zdh L x)):=(fun W hg=>hrow.kept hg (by cases hv:u17.ownBlock <;> simp))
        have hsz3:=hgl.size;clear hrow hgl;have HLF:=za (zoy L x);generalize hlv:yq L x=lvx at *;have HLV:=za hlv;clear hlv
        go_wp2_with (first
         | (go_at_call 23;refine(RSt.life (HRD.out.grown HGL.out).st x lvx HLL.out HLV.out).mono ?_;rintro e w4 ⟨rfl,hq,hg⟩;have HG4:=za hg;have hsz4:=hg.size;clear hq hg)
         | (at_builtin;refine wpList_append_own _ rfl _ _ 46 rfl w3.heap.size 2 i0 (.int .i64 0) 1 8 Tryz.underlying46 hi hz0 hz1 hz2 rfl (by decide) _ _ _ rfl (HROWL.out _ ?c0) ⟨w4.heap.size,0,none⟩ 1 1 [.int .i64 lvx] rfl rfl ?c1 ?c2 ?c3 ?c4 ?c5 ?_))
        case c0=>exact zg HG4.out _
        case c1=>
         intro q u hq
         match q,hq with
         | 0,hq=>simp at hq;subst hq;simp[Addr.add,go_sem]
         | q+1,hq=>simp at hq
        case c2=>intro u hu;simp at hu;subst hu;rfl
        case c3=>unfold maxLen;omega
        case c4=>omega
        case c5=>simp;omega
        intro v' w9 ho hg9 _;have H9:Hid (w3.grownBy w9 none∧w9.ownsRow w3.heap.size 2 1 v' (x+1) (zdh L (x+1))):=(show _∧_ from ⟨jk (ze HGL.out (zg HG4.out _)) hg9 (Jt (HROWL.out _ (zd _))),by rw[HLF.out];exact ho⟩)
        clear ho hg9;go_wp2
        go_roundw
        case rel=>exact⟨x+1,by omega,rfl,H9.out.1,H9.out.2⟩
        case measure=>simp[intOf];omega
       ·obtain rfl:x=n:=by omega
        obtain⟨g3,cap3,rfl⟩:=Xr hrow (by omega)
        have HRE:Hid (Re w x tb L L ⟨kind,node,zvw,zvx,zvy,zvz,key,code⟩ (callV L zvw) u10 lostL g1 g2 u15 pl (.slice (some ⟨g3,0,none⟩) x cap3) wr):=mk_re HRD.out hgl hrow;clear hgl hrow HGL HRD;obtain⟨L',hL'⟩:∃L',Xz L ⟨kind,node,zvw,zvx,zvy,zvz,key,code⟩=L':=⟨_,rfl⟩;have HRI:Hid (Jy k ⟨kind,node,zvw,zvx,zvy,zvz,key,code⟩ L L'):=hL' ▸ zsy hk0 HTOP.out.inv _;have HIN:Hid (Inv x k L'):=hL' ▸ zpu HTOP.out.inv _;have HCL:Hid (zlf L'):=hL' ▸ zqv HTOP.out.inv HTOP.out.cl _;have HL':=za hL';obtain⟨rr,hrr⟩:∃rr:Int,(if ua ⟨kind,node,zvw,zvx,zvy,zvz,key,code⟩=true∧node<(L.zv0.length:Int) then (0:Int) else 2)=rr:=⟨_,rfl⟩
        have HRR:=za hrr;have HB3:Hid (L.offers<1000000∧L.next<1000000):=(show _∧_ from ⟨by have:=HTOP.out.of;omega,by have:=HTOP.out.nx;omega⟩)
        have d0:wr.cell? ⟨g1,0,none⟩=some (.int .u8 kind):=(zh HRE.out.bx.c 0).trans rfl;have d1:wr.cell? ⟨g1,1,none⟩=some (.int .i64 node):=(zh HRE.out.bx.c 1).trans rfl;have d2:wr.cell? ⟨g1,2,none⟩=some (.int .i64 zvw):=(zh HRE.out.bx.c 2).trans rfl;have d3:wr.cell? ⟨g1,3,none⟩=some (.int .i64 zvx):=(zh HRE.out.bx.c 3).trans rfl;have d4:wr.cell? ⟨g1,4,none⟩=some (.int .i64 zvy):=(zh HRE.out.bx.c 4).trans rfl;have d5:wr.cell? ⟨g1,5,none⟩=some (.int .i64 zvz):=(zh HRE.out.bx.c 5).trans rfl;have d6:wr.cell? ⟨g1,6,none⟩=some (.string key):=(zh HRE.out.bx.c 6).trans rfl;have d7:wr.cell? ⟨g1,7,none⟩=some (.int .i64 code):=(zh HRE.out.bx.c 7).trans rfl;clear hL' hrr
        go_wp2_with (go_at_call 22;refine(HRE.out.st.act HTOP.out.inv (by omega) HB3.out.1 HB3.out.2 kind node zvw zvx zvy zvz key code hk rr HRR.out L' HL'.out).mono ?_;rintro e w5 ⟨rfl,hq,hs⟩;have HRF:=za (HRE.out.step hq hs);clear hq hs HRE d0 d1 d2 d3 d4 d5 d6 d7)
        have HLL':Hid (L'.zv0.length≤1000000):=(show _≤_ from by rw[HIN.out.ln];omega)
        go_loopw [19] (fun i wr=>∃a:Nat,a≤x∧i = .int .i64 a∧w5.grownBy wr none) (fun i _=>x-(intOf i).toNat)
        case atStart=>exact⟨0,Nat.zero_le _,rfl,zd _⟩
        case round=>as_aux_lemma=>
         obtain⟨y,hy,rfl,hgl⟩:=hrel;have HGL:=za hgl;clear hgl
         rcases Nat.lt_or_ge y x with hlt|hge
         ·have HLF:Hid (∀V,wr.grownBy V none→Calls Tryz.prog 23 #[.pointer (some ⟨tb,0,none⟩),.int .i64 y] V fun e w'=>e = .returned (.int .i64 (yq L' y))∧V.grownBy w' none):=fun V hg=>(HRF.out.grown HGL.out).st.life_ro y _ HLL'.out rfl hg
          have HOF:Hid (∀V,wr.grownBy V none→Calls Tryz.prog 35 #[.pointer (some ⟨tb,0,none⟩)] V fun e w'=>e = .returned (.int .i64 L'.offers)∧V.grownBy w' none):=fun V hg=>(HRF.out.grown HGL.out).st.offered_ro _ rfl hg
          have hcl:wr.cell? ⟨g3,y,none⟩=some (.int .i64 (yq L y)):=by
           have h1:=(HRF.out.grown HGL.out).lv.cells (g:=g3) rfl y (.int .i64 (yq L y)) (by simp[zdh,hlt])
           rw[←h1];congr 1;unfold Addr.add;simp
          have hl:=HRI.out.life y;have f1:decide (yq L' y<yq L y)=false:=by simp;omega
          have f2:decide (L'.offers<yq L' y)=false:=by simp;omega
          have hblt:=yo hcl;generalize yq L' y=y1 at *;generalize yq L y=y0 at *;generalize L'.offers=y2 at *;clear hl;go_wp2;refine zo (by kernel_rfl) (by kernel_rfl) ?_
          repeat (any_goals (first|go_big_quiet_step (first|(go_at_call 23;exact zq (HLF.out _ (yf _ _)))|(go_at_call 35;exact zq (HOF.out _ (yf _ _))))|quiet_step (first|(go_at_call 23;exact zq (HLF.out _ (yf _ _)))|(go_at_call 35;exact zq (HOF.out _ (yf _ _))))))
          refine wpQuiet_nil ?_;intro _ hw';obtain⟨xx,hw''⟩:=hw';subst hw'';go_wp2
          go_roundw
          case rel=>exact⟨y+1,by omega,rfl,ze HGL.out (by repeat (first|exact zd _|refine zi ?_ _|refine zg ?_ _|refine zf ?_))⟩
          case measure=>simp[intOf];omega
         ·obtain rfl:y=x:=by omega
          have HRG:=za (HRF.out.grown HGL.out);clear HRF HGL;have d2:wr.cell? ⟨g1,2,none⟩=some (.int .i64 zvw):=(zh HRG.out.bx.c 2).trans rfl
          go_upto_region 25 with (go_at_call 32;refine(HRG.out.st.call zvw _ rfl).mono ?_;rintro e w6 ⟨rfl,hq,hg⟩;have HRH:=za (HRG.out.grown hg);clear hq hg HRG d2)
          have hr1:=HRI.out.zvy;have hr2:=HRI.out.same;have hr3:=HRI.out.new;have hr4:=HRI.out.nx;have hr5:=HRI.out.look;simp only at hr1 hr2 hr3 hr5;have hn0:1≤L.next∧L.next<1000000:=⟨HTOP.out.inv.nx,HB3.out.2⟩;have HRJ:Hid (Re w y tb L L' ⟨kind,node,zvw,zvx,zvy,zvz,key,code⟩ (callV L zvw) u10 lostL g1 g2 u15 pl (.slice (some ⟨g3,0,none⟩) y cap3) (w6.alloc (.cells #[.int .i64 (callV L' zvw).zvy,.int .i64 (callV L' zvw).zvz,.bool (callV L' zvw).done,.int .i64 (callV L' zvw).code] 77))):=HRH.out.grown (zc _ _ _);have p0:(w6.alloc (.cells #[.int .i64 (callV L' zvw).zvy,.int .i64 (callV L' zvw).zvz,.bool (callV L' zvw).done,.int .i64 (callV L' zvw).code] 77)).cell? ⟨w6.heap.size,0,none⟩=some (.int .i64 (callV L' zvw).zvy):=by simp[go_sem]
          have p1:(w6.alloc (.cells #[.int .i64 (callV L' zvw).zvy,.int .i64 (callV L' zvw).zvz,.bool (callV L' zvw).done,.int .i64 (callV L' zvw).code] 77)).cell? ⟨w6.heap.size,1,none⟩=some (.int .i64 (callV L' zvw).zvz):=by simp[go_sem]
          have p2:(w6.alloc (.cells #[.int .i64 (callV L' zvw).zvy,.int .i64 (callV L' zvw).zvz,.bool (callV L' zvw).done,.int .i64 (callV L' zvw).code] 77)).cell? ⟨w6.heap.size,2,none⟩=some (.bool (callV L' zvw).done):=by simp[go_sem]
          have p3:(w6.alloc (.cells #[.int .i64 (callV L' zvw).zvy,.int .i64 (callV L' zvw).zvz,.bool (callV L' zvw).done,.int .i64 (callV L' zvw).code] 77)).cell? ⟨w6.heap.size,3,none⟩=some (.int .i64 (callV L' zvw).code):=by simp[go_sem]
          generalize w6.alloc (.cells #[.int .i64 (callV L' zvw).zvy,.int .i64 (callV L' zvw).zvz,.bool (callV L' zvw).done,.int .i64 (callV L' zvw).code] 77)=W7 at *;generalize w6.heap.size=g4 at *;have e0:W7.cell? ⟨g2,0,none⟩=some (.int .i64 (callV L zvw).zvy):=(zh HRJ.out.bx.call 0).trans rfl;have e1:W7.cell? ⟨g2,1,none⟩=some (.int .i64 (callV L zvw).zvz):=(zh HRJ.out.bx.call 1).trans rfl;have e2:W7.cell? ⟨g2,2,none⟩=some (.bool (callV L zvw).done):=(zh HRJ.out.bx.call 2).trans rfl;have e3:W7.cell? ⟨g2,3,none⟩=some (.int .i64 (callV L zvw).code):=(zh HRJ.out.bx.call 3).trans rfl;have d6:W7.cell? ⟨g1,6,none⟩=some (.string key):=(zh HRJ.out.bx.c 6).trans rfl;clear HRH;generalize callV L zvw=cv at *;generalize callV L' zvw=cn at *;obtain⟨q0,v0,t0,z0⟩:=cv;obtain⟨q1,v1,t1,z1⟩:=cn;simp only at hr1 hr2 hr3 p0 p1 p2 p3 e0 e1 e2 e3;generalize hN0:L.next=n0 at *;generalize hN1:L'.next=n1 at *;have HN0:=za hN0;have HN1:=za hN1;clear hN0 hN1;generalize hK0:look L key=lk0 at *;generalize hK1:look L' key=lk1 at *;have HK1:=za hK1;clear hK0 hK1;have HG7:Hid (W7.grownBy W7 none):=zd W7;have f1:decide (n1<n0)=false:=by simp;omega
          have f2:decide (n0+1<n1)=false:=by simp;omega
          have f3:decide (q1<q0)=false:=by simp;omega
          go_cut [134] (fun s wx=>s = .bool false∧W7.grownBy wx none)
          case first=>as_aux_lemma=>
           have hcase:((q1 == q0)=false∧¬q1=q0)∨(q1=q0∧t0=false)∨(q1=q0∧v1=v0∧t1=true∧t0=true∧z1=z0):=by
            by_cases hq:q1=q0
            ·cases ht:t0 with
             | false=>exact Or.inr (Or.inl ⟨hq,rfl⟩)
             | true=>
              have:=hr2 hq ht
              injection this with a1 a2 a3 a4
              exact Or.inr (Or.inr ⟨a1,a2,a3.trans ht,rfl,a4⟩)
            ·exact Or.inl ⟨by simpa using hq,hq⟩
           clear hr1 hr2 hr3 hr4 hr5
           rcases hcase with ⟨hb1,hq⟩|⟨rfl,rfl⟩|⟨rfl,rfl,rfl,rfl,rfl⟩
           all_goals
            go_wp2_with (go_at_call 31;refine(HRJ.out.st.next _ HN1.out).mono ?_;rintro e w8 ⟨rfl,hq8,hg⟩;replace HRJ:=za (HRJ.out.grown hg);replace HG7:=za (ze HG7.out hg);replace p0:=hg.cell p0 (by simp);replace p1:=hg.cell p1 (by simp);replace p2:=hg.cell p2 (by simp);replace p3:=hg.cell p3 (by simp);replace e0:=hg.cell e0 (by simp);replace e1:=hg.cell e1 (by simp);replace e2:=hg.cell e2 (by simp);replace e3:=hg.cell e3 (by simp);clear hq8 hg)
            go_meet
            exact⟨rfl,HG7.out⟩
          case rest=>as_aux_lemma=>
           obtain⟨rfl,hgc⟩:=hcut;replace HRJ:=za (HRJ.out.grown hgc);replace p0:=hgc.cell p0 (by simp)
           replace p1:=hgc.cell p1 (by simp)
           replace p2:=hgc.cell p2 (by simp)
           replace e0:=hgc.cell e0 (by simp)
           replace d6:=hgc.cell d6 (by simp)
           clear hgc HG7 p3 e1 e2 e3 f1 f2 f3;generalize wc=W8 at *
           go_upto_region 27 with fail
           go_cut [150] (fun s wx=>s = .bool false∧wx=W8)
           case first=>as_aux_lemma=>
            have hcase:(decide (q0<q1)=false)∨(decide (q0<q1)=true∧t1=true)∨(decide (q0<q1)=true∧t1=false∧v1=n0):=by
             by_cases hq:q0<q1
             ·cases ht:t1 with
              | true=>exact Or.inr (Or.inl ⟨by simpa using hq,rfl⟩)
              | false=>exact Or.inr (Or.inr ⟨by simpa using hq,rfl,hr3 hq ht⟩)
             ·exact Or.inl (by simpa using hq)
            clear hr1 hr2 hr3 hr4 hr5
            rcases hcase with hb1|⟨hb1,rfl⟩|⟨hb1,rfl,rfl⟩
            all_goals
             go_wp2
             go_meet
             exact⟨rfl,rfl⟩
           case rest=>as_aux_lemma=>
            obtain⟨rfl,rfl⟩:=hcut;clear p0 p1 p2 e0 hr1 hr2 hr3;generalize wc=Wb at *
            go_upto_region 29 with fail
            have HG8:Hid (Wb.grownBy Wb none):=zd Wb
            go_cut [163] (fun s wx=>s = .bool false∧Wb.grownBy wx none)
            case first=>as_aux_lemma=>
             have hcase:lk1=0∨((lk1 != 0)=true∧¬lk1=0∧decide (lk1<lk0)=false):=by
              by_cases h0:lk1=0
              ·exact Or.inl h0
              ·rcases hr5 with h5|h5
               ·exact absurd h5 h0
               ·exact Or.inr ⟨by simpa using h0,h0,by simp;omega⟩
             clear hr4 hr5
             rcases hcase with rfl|⟨hb1,hb2,hb3⟩
             all_goals
              go_wp2_with (go_at_call 34;refine(HRJ.out.st.look key _ HK1.out).mono ?_;rintro e w8 ⟨rfl,hq8,hg⟩;replace HRJ:=za (HRJ.out.grown hg);replace HG8:=za (ze HG8.out hg);replace d6:=hg.cell d6 (by simp);clear hq8 hg)
              go_meet
              exact⟨rfl,HG8.out⟩
            case rest=>as_aux_lemma=>
             obtain⟨rfl,hgc⟩:=hcut;have HPL:Hid (Pl w tb L' u15 pl u10 lostL (100*j) wc):=(show Pl _ _ _ _ _ _ _ _ _ from
              ⟨(HRJ.out.grown hgc).st.less (fun _ h=>h.elim),(HRJ.out.grown hgc).bx.pend,(HRJ.out.grown hgc).bx.row,fun x hx=>⟨by have:=(HTOP.out.gone x hx).1;have:=HN0.out;have:=HN1.out;omega,HRI.out.lost x (HTOP.out.gone x hx).1 (HTOP.out.gone x hx).2⟩,HTOP.out.len,HRJ.out.bx.ne2⟩)
             clear HRJ hgc HG8 d6 hr4 hr5;generalize wc=W9 at *;go_wp2
             go_loopw [10,21] (fun lost p wr=>∃(q:Nat) (lst:List ID),q≤pl.length∧p = .int .i64 q∧Pl w tb L' u15 pl lost lst (100*j+q) wr) (fun _ p _=>pl.length-(intOf p).toNat)
             case atStart=>exact⟨0,lostL,Nat.zero_le _,rfl,HPL.out⟩
             case round=>as_aux_lemma=>
              obtain⟨q,lst,hq,rfl,hpl⟩:=hrel;clear HPL;obtain⟨i1,hi1,hy0,hy1,hy2⟩:=info_parts zot
              rcases Nat.lt_or_ge q pl.length with hlt|hge
              ·obtain⟨gp,capp,rfl⟩:=Xr hpl.pend (by omega)
               obtain⟨⟨xk,xv⟩,hx⟩:∃x,pl[q]! = x:=⟨_,rfl⟩;obtain⟨cA,cB⟩:=znl hpl.pend rfl q hlt _ hx;simp only at cA cB;have htold:=told HTOP.out.inv HRI.out (x:=⟨xk,xv⟩) (by rw[←hx,getElem!_pos pl q hlt];exact HPERM.out.mem_iff.1 (List.getElem_mem hlt))
               obtain⟨htold,hv1,hv2⟩:=htold;simp only at hv1 hv2;have HV2:=za hv2;have HPL:=za hpl;have hplen:(pl.length:Int)≤100:=by
                have h1:=HPERM.out.length_eq;have h2:=HTOP.out.inv.pend_len;have h3:=HTOP.out.nx;simp at h1;omega
               clear hpl hx hv2
               go_upto_region 35 with fail
               have HPM:Hid (Pl w tb L' (.slice (some ⟨gp,0,none⟩) pl.length capp) pl u10 lst (100*j+q) (wr.alloc (.cells #[.string xk,.int .i64 xv] 54))):=HPL.out.grown (zc _ _ _);have xA:(wr.alloc (.cells #[.string xk,.int .i64 xv] 54)).cell? ⟨wr.heap.size,0,none⟩=some (.string xk):=by simp[go_sem]
               have xB:(wr.alloc (.cells #[.string xk,.int .i64 xv] 54)).cell? ⟨wr.heap.size,1,none⟩=some (.int .i64 xv):=by simp[go_sem]
               clear HPL cA cB;generalize wr.alloc (.cells #[.string xk,.int .i64 xv] 54)=W1 at *;generalize wr.heap.size=g5 at *;have hblt:=yo xA
               cases htold with
               | pend h1 h2=>
                have HWN:Hid (∀V,W1.grownBy V none→Calls Tryz.prog 36 #[.pointer (some ⟨tb,0,none⟩),.agg #[.string xk,.int .i64 xv]] V fun e w'=>e = .returned (.bool true)∧V.grownBy w' none):=fun V hg=>HPM.out.st.wanted_ro xk xv true h1 hg
                have HLK:Hid (∀V,W1.grownBy V none→Calls Tryz.prog 34 #[.pointer (some ⟨tb,0,none⟩),.string xk] V fun e w'=>e = .returned (.int .i64 (look L' xk))∧V.grownBy w' none):=fun V hg=>HPM.out.st.look_ro xk _ rfl hg
                have hb:(look L' xk != xv)=true:=by simpa using h2
                clear h1;simp only at h2;generalize look L' xk=lx at *;refine zo (by kernel_rfl) (by kernel_rfl) ?_
                repeat (any_goals (first|go_big_quiet_step (first|(go_at_call 36;exact zq (HWN.out _ (by repeat (first|exact zd _|refine zi ?_ _|refine zg ?_ _|refine zf ?_))))|(go_at_call 34;exact zq (HLK.out _ (by repeat (first|exact zd _|refine zi ?_ _|refine zg ?_ _|refine zf ?_)))))|quiet_step (first|(go_at_call 36;exact zq (HWN.out _ (by repeat (first|exact zd _|refine zi ?_ _|refine zg ?_ _|refine zf ?_))))|(go_at_call 34;exact zq (HLK.out _ (by repeat (first|exact zd _|refine zi ?_ _|refine zg ?_ _|refine zf ?_)))))))
                refine wpQuiet_nil ?_;intro _ hw';obtain⟨xx,hw''⟩:=hw';subst hw'';go_wp2
                go_roundw
                case rel=>exact⟨q+1,lst,by omega,by simp,by have:=HPM.out.grown (yf W1 xx);exact⟨this.st,this.pend,this.row,this.gone,by have:=this.len;omega,this.ne⟩⟩
                case measure=>simp[intOf];omega
               | cur h1 h2=>
                have hw1:yl L' ⟨xk,xv⟩=true:=zfx (by simp only;omega) h1
                simp only at h1;have HWN:Hid (∀V,W1.grownBy V none→Calls Tryz.prog 36 #[.pointer (some ⟨tb,0,none⟩),.agg #[.string xk,.int .i64 xv]] V fun e w'=>e = .returned (.bool true)∧V.grownBy w' none):=fun V hg=>HPM.out.st.wanted_ro xk xv true hw1 hg
                have HLK:Hid (∀V,W1.grownBy V none→Calls Tryz.prog 34 #[.pointer (some ⟨tb,0,none⟩),.string xk] V fun e w'=>e = .returned (.int .i64 xv)∧V.grownBy w' none):=fun V hg=>HPM.out.st.look_ro xk _ h1 hg
                have HFT:Hid (Xw (memH L'.holds ⟨xk,xv⟩)):=HIN.out.fits (by omega) _
                generalize hml:(memH L'.holds ⟨xk,xv⟩).length=ml at *;have HML:=za hml;clear h1 hw1 hml;refine zo (by kernel_rfl) (by kernel_rfl) ?_
                repeat (any_goals (first|go_big_quiet_step (first|(go_at_call 36;exact zq (HWN.out _ (by repeat (first|exact zd _|refine zi ?_ _|refine zg ?_ _|refine zf ?_))))|(go_at_call 34;exact zq (HLK.out _ (by repeat (first|exact zd _|refine zi ?_ _|refine zg ?_ _|refine zf ?_)))))|quiet_step (first|(go_at_call 36;exact zq (HWN.out _ (by repeat (first|exact zd _|refine zi ?_ _|refine zg ?_ _|refine zf ?_))))|(go_at_call 34;exact zq (HLK.out _ (by repeat (first|exact zd _|refine zi ?_ _|refine zg ?_ _|refine zf ?_)))))))
                refine wpQuiet_nil ?_;intro _ hw';obtain⟨xx,hw''⟩:=hw';subst hw'';go_wp2;have hge:=yf W1 xx;replace HPM:=za (HPM.out.grown hge);replace HWN:Hid (∀V,(ext W1 xx).grownBy V none→Calls Tryz.prog 36 #[.pointer (some ⟨tb,0,none⟩),.agg #[.string xk,.int .i64 xv]] V fun e w'=>e = .returned (.bool true)∧V.grownBy w' none):=fun V hg=>HWN.out V (ze hge hg)
                replace HLK:Hid (∀V,(ext W1 xx).grownBy V none→Calls Tryz.prog 34 #[.pointer (some ⟨tb,0,none⟩),.string xk] V fun e w'=>e = .returned (.int .i64 xv)∧V.grownBy w' none):=fun V hg=>HLK.out V (ze hge hg)
                replace xA:=hge.cell xA (by simp)
                replace xB:=hge.cell xB (by simp)
                clear hge hblt;generalize ext W1 xx=W2 at *;have hblt:=yo xA;refine zo (by kernel_rfl) (by kernel_rfl) ?_
                repeat (any_goals (first|go_big_quiet_step (first|(go_at_call 36;exact zq (HWN.out _ (by repeat (first|exact zd _|refine zi ?_ _|refine zg ?_ _|refine zf ?_))))|(go_at_call 34;exact zq (HLK.out _ (by repeat (first|exact zd _|refine zi ?_ _|refine zg ?_ _|refine zf ?_)))))|quiet_step (first|(go_at_call 36;exact zq (HWN.out _ (by repeat (first|exact zd _|refine zi ?_ _|refine zg ?_ _|refine zf ?_))))|(go_at_call 34;exact zq (HLK.out _ (by repeat (first|exact zd _|refine zi ?_ _|refine zg ?_ _|refine zf ?_)))))))
                refine wpQuiet_nil ?_;intro _ hw';obtain⟨xx,hw''⟩:=hw';subst hw''
                go_wp2_with (go_at_call 37;refine((HPM.out.st.grown (by repeat (first|exact zd _|refine zi ?_ _|refine zg ?_ _|refine zf ?_))).holders xk xv ml HFT.out HML.out).mono ?_;rintro e w7 ⟨pp,cc,rfl,hq7,hg⟩;have HPN:=za (HPM.out.grown (ze (by repeat (first|exact zd _|refine zi ?_ _|refine zg ?_ _|refine zf ?_)) hg));clear hq7 hg)
                go_roundw
                case rel=>exact⟨q+1,lst,by omega,by simp,by have:=HPN.out;exact⟨this.st,this.pend,this.row,this.gone,by have:=this.len;omega,this.ne⟩⟩
                case measure=>simp[intOf];omega
               | lost h1 h2=>
                simp only at h2;have HW1:=za h1;have HWN:Hid (∀V,W1.grownBy V none→Calls Tryz.prog 36 #[.pointer (some ⟨tb,0,none⟩),.agg #[.string xk,.int .i64 xv]] V fun e w'=>e = .returned (.bool false)∧V.grownBy w' none):=fun V hg=>HPM.out.st.wanted_ro xk xv false h1 hg
                have HLK:Hid (∀V,W1.grownBy V none→Calls Tryz.prog 34 #[.pointer (some ⟨tb,0,none⟩),.string xk] V fun e w'=>e = .returned (.int .i64 (look L' xk))∧V.grownBy w' none):=fun V hg=>HPM.out.st.look_ro xk _ rfl hg
                have hb:(look L' xk == xv)=false:=by simpa using h2
                clear h1;generalize look L' xk=lx at *;refine zo (by kernel_rfl) (by kernel_rfl) ?_
                repeat (any_goals (first|go_big_quiet_step (first|(go_at_call 36;exact zq (HWN.out _ (by repeat (first|exact zd _|refine zi ?_ _|refine zg ?_ _|refine zf ?_))))|(go_at_call 34;exact zq (HLK.out _ (by repeat (first|exact zd _|refine zi ?_ _|refine zg ?_ _|refine zf ?_)))))|quiet_step (first|(go_at_call 36;exact zq (HWN.out _ (by repeat (first|exact zd _|refine zi ?_ _|refine zg ?_ _|refine zf ?_))))|(go_at_call 34;exact zq (HLK.out _ (by repeat (first|exact zd _|refine zi ?_ _|refine zg ?_ _|refine zf ?_)))))))
                refine wpQuiet_nil ?_;intro _ hw';obtain⟨xx,hw''⟩:=hw';subst hw'';go_wp2;have hge:=yf W1 xx;replace HPM:=za (HPM.out.grown hge);replace HWN:Hid (∀V,(ext W1 xx).grownBy V none→Calls Tryz.prog 36 #[.pointer (some ⟨tb,0,none⟩),.agg #[.string xk,.int .i64 xv]] V fun e w'=>e = .returned (.bool false)∧V.grownBy w' none):=fun V hg=>HWN.out V (ze hge hg)
                replace HLK:Hid (∀V,(ext W1 xx).grownBy V none→Calls Tryz.prog 34 #[.pointer (some ⟨tb,0,none⟩),.string xk] V fun e w'=>e = .returned (.int .i64 lx)∧V.grownBy w' none):=fun V hg=>HLK.out V (ze hge hg)
                replace xA:=hge.cell xA (by simp)
                replace xB:=hge.cell xB (by simp)
                clear hge hblt;generalize ext W1 xx=W2 at *;have hblt:=yo xA;refine zo (by kernel_rfl) (by kernel_rfl) ?_
                repeat (any_goals (first|go_big_quiet_step (first|(go_at_call 36;exact zq (HWN.out _ (by repeat (first|exact zd _|refine zi ?_ _|refine zg ?_ _|refine zf ?_))))|(go_at_call 34;exact zq (HLK.out _ (by repeat (first|exact zd _|refine zi ?_ _|refine zg ?_ _|refine zf ?_)))))|quiet_step (first|(go_at_call 36;exact zq (HWN.out _ (by repeat (first|exact zd _|refine zi ?_ _|refine zg ?_ _|refine zf ?_))))|(go_at_call 34;exact zq (HLK.out _ (by repeat (first|exact zd _|refine zi ?_ _|refine zg ?_ _|refine zf ?_)))))))
                refine wpQuiet_nil ?_;intro _ hw';obtain⟨xx,hw''⟩:=hw';subst hw'';have HLR:Hid (∀V,W2.grownBy V none→V.ownsRow w.heap.size 54 2 u10 lst.length (lst.flatMap ya)):=(fun V hg=>(HPM.out.grown hg).row)
                have hll:=HPM.out.len;have hsw:=HPM.out.st.base.size
                go_wp2_with (first
                 | (go_at_call 36;refine(HWN.out _ (by repeat (first|exact zd _|refine zi ?_ _|refine zg ?_ _|refine zf ?_))).mono ?_;rintro e w7 ⟨rfl,hg⟩;have HG7:Hid (W2.grownBy w7 none):=(ze (by repeat (first|exact zd _|refine zi ?_ _|refine zg ?_ _|refine zf ?_)) hg);have xA7:=HG7.out.cell xA (by simp);have xB7:=HG7.out.cell xB (by simp);have hs7:=HG7.out.size;have hbl7:=yo xA7;clear hg)
                 | (at_builtin;refine wpList_append_own_at _ rfl _ _ 66 rfl w.heap.size 54 i1 (.agg #[.string { data:=#[] },.int .i64 0]) 2 24 Tryz.underlying66 hi1 hy0 hy1 hy2 rfl (by decide) _ _ _ rfl (HLR.out _ ?c0) ⟨w7.heap.size,0,none⟩ 1 1 [.string xk,.int .i64 xv] rfl rfl ?c1 ?c2 ?c3 ?c4 ?c5 ?_))
                case c0=>exact zg HG7.out _
                case c1=>
                 intro jj u hj
                 match jj,hj with
                 | 0,hj=>simp at hj;subst hj;simp[Addr.add,go_sem]
                 | 1,hj=>simp at hj;subst hj;simp[Addr.add,go_sem]
                 | jj+2,hj=>simp at hj
                case c2=>intro u hu;simp at hu;rcases hu with rfl|rfl <;> rfl
                case c3=>unfold maxLen;omega
                case c4=>omega
                case c5=>simp;omega
                intro v' w9 ho hg9 _ hat;have H9:=za ((HPM.out.grown (zg HG7.out (.cells #[.string xk,.int .i64 xv] 54))).more (x:=⟨xk,xv⟩) ho hg9 (by rw[World.size_alloc];exact hat) ⟨by have:=HV2.out;have:=HN1.out;simp only;omega,HW1.out⟩)
                clear ho hg9 hat;go_wp2
                go_roundw
                case rel=>exact⟨q+1,_,by omega,by simp,H9.out⟩
                case measure=>simp[intOf];omega
              ·obtain rfl:q=pl.length:=by omega
               obtain⟨pp,cp,rfl⟩:=zgy hpl.pend;have HPL:=za hpl;clear hpl;have hplen:(pl.length:Int)≤100:=by
                have h1:=HPERM.out.length_eq;have h2:=HTOP.out.inv.pend_len;have h3:=HTOP.out.nx;simp at h1;omega
               have hll5:=HPL.out.len;go_wp2
               go_loopw [23] (fun p wz=>∃q:Nat,q≤lst.length∧p = .int .i64 q∧wr.grownBy wz none) (fun p _=>lst.length-(intOf p).toNat)
               case atStart=>exact⟨0,Nat.zero_le _,rfl,zd _⟩
               case round=>as_aux_lemma=>
                obtain⟨q,hq5,rfl,hgl⟩:=hrel;have HPM:=za (HPL.out.grown hgl);have HGL:=za hgl;clear hgl
                rcases Nat.lt_or_ge q lst.length with hlt|hge
                ·obtain⟨gp,capp,rfl⟩:=Xr HPM.out.row (by omega)
                 obtain⟨⟨xk,xv⟩,hx⟩:∃x,lst[q]! = x:=⟨_,rfl⟩;obtain⟨cA,cB⟩:=znl HPM.out.row rfl q hlt _ hx;simp only at cA cB;have hgone:=HPM.out.gone ⟨xk,xv⟩ (by rw[←hx,getElem!_pos lst q hlt];exact List.getElem_mem hlt)
                 have HW:=za hgone.2;have HML:Hid ((memH L'.holds ⟨xk,xv⟩).length=0):=(show _=_ from by rw[HCL.out _ hgone.2];rfl)
                 have HFT:Hid (Xw (memH L'.holds ⟨xk,xv⟩)):=HIN.out.fits (by omega) _
                 clear hgone hx
                 go_wp2_with (first
                  | (go_at_call 36;refine(HPM.out.st.wanted xk xv false HW.out).mono ?_;rintro e w7 ⟨rfl,hq7,hg⟩;replace HPM:=za (HPM.out.grown hg);replace HGL:=za (ze HGL.out hg);replace cA:=hg.cell cA (by simp);replace cB:=hg.cell cB (by simp);clear hq7 hg)
                  | (go_at_call 37;refine(HPM.out.st.holders xk xv 0 HFT.out HML.out).mono ?_;rintro e w7 ⟨pp,cc,rfl,hq7,hg⟩;replace HPM:=za (HPM.out.grown hg);replace HGL:=za (ze HGL.out hg);replace cA:=hg.cell cA (by simp);replace cB:=hg.cell cB (by simp);clear hq7 hg))
                 go_roundw
                 case rel=>exact⟨q+1,by omega,by simp,HGL.out⟩
                 case measure=>simp[intOf];omega
                ·obtain rfl:q=lst.length:=by omega
                 obtain⟨pq,cq,rfl⟩:=zgy HPM.out.row;go_wp2
                 go_roundw
                 case rel=>
                  refine⟨j+1,L',lst,by omega,by simp,⟨HPM.out.st.take (fun g hg=>Or.inr ?_),HIN.out,HCL.out,?_,?_,HPM.out.row,HPM.out.gone,?_⟩⟩
                  ·obtain⟨c,hc⟩:=Xp HPM.out.row hg
                   exact⟨_,_,_,hc,by decide,by decide⟩
                  ·have:=HRI.out.of;have:=HTOP.out.of;omega
                  ·have:=HRI.out.nx;have:=HTOP.out.nx;omega
                  ·have:=HPM.out.len;omega
                 case measure=>simp[intOf];omega
   ·obtain rfl:j=m:=by omega
    have HTOP:=za htop;clear htop HT0
    go_wp2_with (go_at_call 10;refine(qd _).mono ?_;rintro e w2 ⟨rfl,hg⟩;have HG2:=za hg;clear hg)
    go_ret
    exact⟨rfl,ze HTOP.out.st.base HG2.out⟩
end Go.Proofs.YtjfelfjobeeenaaGreat
