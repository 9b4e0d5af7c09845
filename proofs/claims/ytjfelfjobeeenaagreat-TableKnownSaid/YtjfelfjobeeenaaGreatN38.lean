/- TableLives answers true: the walk. Conditions: none, or as the theorems say. -/
import Derived.Test.YtjfelfjobeeenaaGreatN37
import Derived.Test.YtjfelfjobeeenaaGreatN16
import Derived.Test.YtjfelfjobeeenaaGreatN27
import Derived.Laws.IdiomCopy
namespace Go.Proofs.YtjfelfjobeeenaaGreat
set_option maxHeartbeats 200000000
set_option linter.unusedVariables false
set_option linter.unusedSimpArgs false
open Go.RowKit Go.Sf Go.Shelf
set_option maxRecDepth 100000 in
theorem lives_long (nd wi wh:Nat) (key:ByteArray) (hn:nd<256) (hw:wi<256) (hh:wh<256) (hk1:64<key.size) (hk2:(key.size:Int)≤9223372036854775807) (w:World) :
  Calls Tryz.prog 44 #[.int .u8 nd,.int .u8 wi,.string key,.int .u8 wh] w fun e w'=>e = .returned (.bool true)∧w.grownBy w' none:=by
 have e1:(nd:Int).tmod 12=((nd%12:Nat):Int):=rfl;have e2:(wi:Int).tmod 12=((wi%12:Nat):Int):=rfl;have hr1:nd%12<12:=Nat.mod_lt _ (by omega)
 have hr2:wi%12<12:=Nat.mod_lt _ (by omega)
 generalize nd%12=a at *;generalize wi%12=b at *;have hk3:decide ((64:Int)<(key.size:Int))=true:=by simp;omega
 go_enter Tryz.func44,Tryz.ntmps44
 go_wp2_with (go_at_call 10;refine(qd _).mono ?_;rintro e w1 ⟨rfl,hg⟩)
 go_ret
 exact⟨rfl,hg⟩
structure St0 (w:World) (tb:Nat) (L:Tab) (W:World):Prop where
 tab:At (fun k=>w.heap.size≤k) W tb L
 out:Out (fun k=>w.heap.size≤k) w W
theorem St0.step {w W:World} {tb:Nat} {L:Tab} (h:St0 w tb L W) (kind node zvw zvx zvy zvz:Int) (key:ByteArray) (code:Int) (L':Tab) (hg:Yx L ⟨kind,node,zvw,zvx,zvy,zvz,key,code⟩=true) (hL:uc L ⟨kind,node,zvw,zvx,zvy,zvz,key,code⟩=L') :
  Calls Tryz.prog 22 #[.pointer (some ⟨tb,0,none⟩),.agg #[.int .u8 kind,.int .i64 node,.int .i64 zvw,.int .i64 zvx,.int .i64 zvy,.int .i64 zvz,.string key,.int .i64 code]] W fun e w'=>e = .returned (.int .i64 0)∧St0 w tb L' w':=by
 subst hL;refine(zj9 h.tab ⟨kind,node,zvw,zvx,zvy,zvz,key,code⟩ hg (fun k hk=>by have:=h.out.size;omega)).mono ?_
 rintro e w' ⟨a,b,c⟩
 exact⟨a,b,h.out.trans c⟩
theorem St0.box {w W:World} {tb:Nat} {L:Tab} (h:St0 w tb L W) (o:Obj):St w W.heap.size tb L (W.alloc o):=
 ⟨(h.tab.mono (fun k hk h2=>⟨h2,by omega⟩)).grown (zc _ _ _),
 ⟨h.out.os,h.out.tape,h.out.output,by have:=h.out.size;simp;omega,fun k hk _=>((zc W o none).block k (Nat.lt_of_lt_of_le hk h.out.size) (by simp)).trans (h.out.block k hk (by omega))⟩,by simp⟩
section
variable {n k a d : Nat} {key : ByteArray} {M : List Int}
theorem zl1 (hn:n≤12) (ha:a≤n) (h1:1≤n):Yx (stA n k a) ⟨1,0,0,0,0,0,⟨#[]⟩,0⟩=true:=
 zf8 rfl ⟨by show(0:Int)≤a;omega,by show(a:Int)<_;omega⟩ ⟨by show(0:Int)≤1;omega,by show(1:Int)<_;omega⟩ (by show(lvA n a).length≤_;rw[uq];omega) rfl (by simp) ⟨by simp,by show(0:Int)<((lvA n a).length:Int);rw[uq];omega,by simp⟩ (by simp) (by simp) (by simp) (by simp) (by simp) (by decide)
theorem zop (hn:n≤12) (ha:a<n):Yx (stB n k a) ⟨2,a,0,(a:Int)+1,0,0,⟨#[]⟩,0⟩=true:=
 zf8 rfl ⟨by show(0:Int)≤(a:Int)+1;omega,by show(a:Int)+1<_;omega⟩ ⟨by show(0:Int)≤1;omega,by show(1:Int)<_;omega⟩ (by show(lvA n a).length≤_;rw[uq];omega) rfl (by simp) ⟨by simp,by show(a:Int)<((lvA n a).length:Int);rw[uq];omega,by show(a:Int)<255;omega⟩ ⟨by show(0:Int)≤(a:Int)+1;omega,by show(a:Int)+1≤_;omega⟩ (by simp) (by simp) (by simp) (by simp) (by simp only;decide)
theorem zoo (hn:n≤12) (h1:1≤n) (hk:key.size≤64):Yx (stA n k n) ⟨3,0,1,0,1,0,key,0⟩=true:=
 zf8 rfl ⟨by show(0:Int)≤n;omega,by show(n:Int)<_;omega⟩ ⟨by show(0:Int)≤1;omega,by show(1:Int)<_;omega⟩ (by show(lvA n n).length≤_;rw[uq];omega) rfl (by simp) ⟨by simp,by show(0:Int)<((lvA n n).length:Int);rw[uq];omega,by simp⟩ (by simp) (by simp) (by simp) (by simp) (by simp) hk
theorem zda {o:Int} {zv0:List Int} {c:Cmd} (ho:0≤o∧o<1000000) (hl:zv0.length≤1000000) (hb:c=vj c) (hkd:1≤c.kind∧c.kind≤7) (hnode:0≤c.node∧c.node<(zv0.length:Int)∧c.node<255)
  (h1:0≤c.zvx∧c.zvx≤1000000) (h2:0≤c.zvy∧c.zvy≤1000000) (h3:0≤c.zvz∧c.zvz≤1000000) (h4:0≤c.zvw∧c.zvw≤65535) (h5:0≤c.code∧c.code≤65535) (h6:c.key.size≤64):Yx (opn k o zv0 key M) c=true:=
 zf8 rfl ho ⟨by show(0:Int)≤2;omega,by show(2:Int)<_;omega⟩ hl hb hkd hnode h1 h2 h3 h4 h5 h6
theorem zl2 (hn:n≤12) (h1:1≤n):Yx (stC n k a key) ⟨1,0,0,0,0,0,⟨#[]⟩,0⟩=true:=
 zda ⟨by omega,by omega⟩ (by rw[uq];omega) rfl (by simp) ⟨by simp,by rw[uq];show(0:Int)<_;omega,by simp⟩ (by simp) (by simp) (by simp) (by simp) (by simp) (by simp only;decide)
theorem zoq (hn:n≤12) (hd:d<n):Yx (stO n k key) ⟨2,d,0,(n:Int)+1,0,0,⟨#[]⟩,0⟩=true:=
 zda ⟨by omega,by omega⟩ (by rw[uq];omega) rfl (by simp) ⟨by show(0:Int)≤d;omega,by rw[uq];show(d:Int)<_;omega,by show(d:Int)<_;omega⟩ ⟨by show(0:Int)≤(n:Int)+1;omega,by show(n:Int)+1≤_;omega⟩ (by simp) (by simp) (by simp) (by simp) (by simp only;decide)
theorem zir {zvx:Int} (hn:n≤12) (ha:a<n) (hi:0≤zvx∧zvx≤1000000) (hk:key.size≤64):Yx (stD n k d key M) ⟨4,a,0,zvx,0,1,key,0⟩=true:=
 zda ⟨by omega,by omega⟩ (by rw[Uw];omega) rfl (by simp) ⟨by show(0:Int)≤a;omega,by rw[Uw];show(a:Int)<_;omega,by show(a:Int)<_;omega⟩ hi (by simp) (by simp) (by simp) (by simp) hk
theorem zq9 (hn:n≤12) (ha:a<n) (hk:key.size≤64):Yx (stC n k a key) ⟨4,a,0,(a:Int)+1,0,1,key,0⟩=true:=
 zda ⟨by omega,by omega⟩ (by rw[uq];omega) rfl (by simp) ⟨by show(0:Int)≤a;omega,by rw[uq];show(a:Int)<_;omega,by show(a:Int)<_;omega⟩ ⟨by show(0:Int)≤(a:Int)+1;omega,by show(a:Int)+1≤_;omega⟩ (by simp) (by simp) (by simp) (by simp) hk
end
set_option maxRecDepth 100000 in
theorem zff (nd wi wh:Nat) (key:ByteArray) (hn:nd<256) (hw:wi<256) (hh:wh<256) (hk1:key.size≤64) (w:World) :
  Calls Tryz.prog 44 #[.int .u8 nd,.int .u8 wi,.string key,.int .u8 wh] w fun e w'=>e = .returned (.bool true)∧w.grownBy w' none:=by
 have e1:(nd:Int).tmod 12=((nd%12:Nat):Int):=rfl;have e2:(wi:Int).tmod 12=((wi%12:Nat):Int):=rfl;have hr1:nd%12<12:=Nat.mod_lt _ (by omega)
 have hr2:wi%12<12:=Nat.mod_lt _ (by omega)
 generalize nd%12=a at *;generalize wi%12=b at *;obtain⟨n,hna⟩:∃n,n=1+a:=⟨_,rfl⟩;have e4:(1:Int)+(a:Int)=(n:Int):=by omega
 have hm:=Nat.mod_lt b (show 0<n by omega)
 have e5:(b:Int)%(n:Int)=((b%n:Nat):Int):=rfl;generalize b%n=m at *;obtain⟨k,hkm⟩:∃k,k=1+m:=⟨_,rfl⟩;have e6:(1:Int)+(m:Int)=(k:Int):=by omega
 have hn12:n≤12:=by omega
 have hn1:1≤n:=by omega
 have hkn:k≤n:=by omega
 have hk0:1≤k:=by omega
 have hk3:decide ((64:Int)<(key.size:Int))=false:=by simp;omega
 have HB:Hid (n≤12∧1≤n∧k≤n∧1≤k):=⟨hn12,hn1,hkn,hk0⟩;have HNW:Hid (∀W,Calls Tryz.prog 30 #[.int .i64 n,.int .i64 k] W fun e w'=>∃tb,e = .returned (.pointer (some ⟨tb,0,none⟩))∧W.heap.size≤tb∧At (fun k=>W.heap.size≤k) w' tb (stA n k 0)∧W.grownBy w' none):=(fun W=>by
  have:=zel (bs:=fun k=>W.heap.size≤k) n k n (by unfold vm;rw[if_neg (by omega),if_neg (by omega)]) W (fun _ h=>h)
  rw[stA_new n k hk0 hkn] at this
  exact this)
 have E4:=za e4;have E6:Hid (wrap64 (1+(b:Int)%(n:Int))=(k:Int)):=(show _=_ from by rw[e5,e6];unfold wrap64;omega)
 clear hna hkm hm e4 e5 e6
 go_enter Tryz.func44,Tryz.ntmps44
 clear hn12 hn1 hkn hk0
 go_wp2_with (go_at_call 30;rw[E4.out,E6.out];go_loud (refine(HNW.out w).mono ?_;rintro e w1 ⟨tb,rfl,hle,hA,hg⟩;have HA:=za hA;have HG:=za hg;clear hA hg))
 have HA0:Hid (St0 w tb (stA n k 0) w1):=(show St0 _ _ _ _ from ⟨HA.out,Out.of_grown HG.out _⟩)
 clear HA HG HNW E4 E6;obtain⟨hn12,hn1,hkn,hk0⟩:=HB.out
 go_loopw [12] (fun i wr=>∃j:Nat,j≤n∧i = .int .i64 j∧St0 w tb (stA n k j) wr) (fun i _=>n-(intOf i).toNat)
 case atStart=>exact⟨0,Nat.zero_le _,rfl,HA0.out⟩
 case round=>
  obtain⟨j,hj,rfl,hat⟩:=hrel;have HAT:=za hat;clear hat HA0
  rcases Nat.lt_or_ge j n with hlt|hge
  ·go_wp2_with (go_at_call 22;first
    | (refine(HAT.out.step 1 0 0 0 0 0 ⟨#[]⟩ 0 (stB n k j) (zl1 hn12 hj hn1) (zso n k j)).mono ?_;rintro e w3 ⟨rfl,hq⟩;have HBT:=za hq;clear hq HAT)
    | (refine(HBT.out.step 2 j 0 ((j:Int)+1) 0 0 ⟨#[]⟩ 0 (stA n k (j+1)) (zop hn12 hlt) (zvd n k j hlt)).mono ?_;rintro e w3 ⟨rfl,hq⟩;have HCT:=za hq;clear hq HBT))
   go_roundw
   case rel=>exact⟨j+1,by omega,rfl,HCT.out⟩
   case measure=>simp[intOf];omega
  ·obtain rfl:j=n:=by omega
   have HK:=za hk1
   go_wp2_with (first
    | (go_at_call 22;refine(HAT.out.step 3 0 1 0 1 0 key 0 (stC j k 0 key) (zoo hn12 hn1 HK.out) zsn).mono ?_;rintro e w3 ⟨rfl,hq⟩;have HCT:=za hq;clear hq HAT)
    | (go_at_call 45;refine(zke key 1 _).mono ?_;rintro e w4 ⟨rfl,hg⟩;have HC0:=za (⟨HCT.out.tab.grown hg,HCT.out.out.grown hg⟩:St0 _ _ _ _);clear hg HCT;simp only[zx]))
   have hst:=HC0.out.box (.cells #[.string key,.int .i64 1] 54);have x0:(w4.alloc (.cells #[.string key,.int .i64 1] 54)).cell? ⟨w4.heap.size,0,none⟩=some (.string key):=by simp[go_sem]
   have x1:(w4.alloc (.cells #[.string key,.int .i64 1] 54)).cell? ⟨w4.heap.size,1,none⟩=some (.int .i64 1):=by simp[go_sem]
   have hwg:w.heap.size≤w4.heap.size:=HC0.out.out.size;generalize w4.alloc (.cells #[.string key,.int .i64 1] 54)=W5 at *;generalize w4.heap.size=g at *;have HS0:=za hst;have HX:=za (And.intro x0 x1);clear hst x0 x1 HC0
   go_loopw [14] (fun i wr=>∃c:Nat,c+1≤k∧i = .int .i64 c∧St w g tb (stC j k c key) wr∧Out (fun b=>w.heap.size≤b∧b≠g) W5 wr) (fun i _=>k-(intOf i).toNat)
   case atStart=>exact⟨0,by omega,rfl,HS0.out,Out.refl _ _⟩
   case round=>
    obtain⟨c,hc,rfl,hat,hout⟩:=hrel;have HAC:=za hat;have HOC:=za hout;clear hat hout HS0
    rcases Nat.lt_or_ge (c+1) k with hlt|hge
    ·go_wp2_with (go_at_call 22;refine(HAC.out.step hwg 4 c 0 ((c:Int)+1) 0 1 key 0 (stC j k (c+1) key) (zq9 hn12 (by omega) HK.out) (stC_ack hlt hkn)).mono ?_;rintro e w6 ⟨rfl,hq,ho⟩;have HAD:=za hq;have HOD:=za ho;clear hq ho)
     go_roundw
     case rel=>exact⟨c+1,by omega,rfl,HAD.out,HOC.out.trans HOD.out⟩
     case measure=>simp[intOf];omega
    ·obtain rfl:c=k-1:=by omega
     have hx:=HX.out;have x0:=HOC.out.cell hx.1 (fun h=>h.2 rfl)
     have x1:=HOC.out.cell hx.2 (fun h=>h.2 rfl)
     clear hx HX HOC;have hrl:((k-1:Nat):Int)=(k:Int)-1:=by omega
     have HF:Hid (Xw (memH (stC j k (k-1) key).holds ⟨key,1⟩)∧(memH (stC j k (k-1) key).holds ⟨key,1⟩).length=k-1):=(by
      have e:memH (stC j k (k-1) key).holds ⟨key,1⟩=rg (k-1):=zdl;rw[e]
      exact⟨Vc ⟨fun x hx=>by have:=(zhm _ _).1 hx;omega,by rw[zb6];omega⟩,zb6 _⟩)
     have hkl:((k-1:Nat):Int)≤12:=by omega
     have hmod:=Nat.mod_lt wh (show 0<j by omega)
     have e7:(wh:Int)%(j:Int)=((wh%j:Nat):Int):=rfl;generalize wh%j=d at *;have HLN:=za (zg6 (k:=k) (d:=d));have hdec:(decide ((d:Int)<(k:Int)-1)=true∧((zfc k d:Nat):Int)=(k:Int)-1-1)∨(decide ((d:Int)<(k:Int)-1)=false∧((zfc k d:Nat):Int)=(k:Int)-1):=by
      unfold zfc
      by_cases h:d<k-1
      ·left;rw[if_pos h];exact⟨by simp;omega,by omega⟩
      ·right;rw[if_neg h];exact⟨by simp;omega,by omega⟩
     have HFD:Hid (∀M,Xw M→Xw (memH (stD j k d key M).holds ⟨key,1⟩)):=(fun M h=>by rw[show memH (stD j k d key M).holds ⟨key,1⟩=M from zdl];exact h)
     have HM0:Hid (Xw (zbc k d)):=(show Xw _ from Vc ⟨fun x hx=>by have:=zmh x hx;omega,by rw[zg6];unfold zfc;omega⟩)
     have SO:=za (zsp (n:=j) (k:=k) (key:=key));have SL:=za (zvf (n:=j) (k:=k) (d:=d) (key:=key) hmod);have SS:=za (zsq (n:=j) (k:=k) (d:=d) (key:=key) hmod (zbc k d));have HLF:=za (zca (k:=k) (key:=key) (d:=d) (n:=j) hmod hmod (zbc k d));generalize zfc k d=lf at *;generalize hlc:k-1=lc at *
     go_wp2_with (first
      | (go_at_call 37;go_loud (refine(HAC.out.holders key 1 lc HF.out.1 HF.out.2).mono ?_;rintro e w6 ⟨p,q,rfl,hq,hg⟩;replace HAC:=za hq;replace x0:=hg.cell x0 (by simp);replace x1:=hg.cell x1 (by simp);clear hq hg))
      | (go_at_call 34;go_loud (refine(HAC.out.look key 0 rfl).mono ?_;rintro e w6 ⟨rfl,hq,hg⟩;replace HAC:=za hq;replace x0:=hg.cell x0 (by simp);replace x1:=hg.cell x1 (by simp);clear hq hg)))
     rcases hdec with ⟨hdk,hlf⟩|⟨hdk,hlf⟩
     all_goals
      go_wp2_with (first
       | (go_at_call 22;first
        | (refine(HAC.out.step hwg 1 0 0 0 0 0 ⟨#[]⟩ 0 (stO j k key) (zl2 hn12 hn1) SO.out).mono ?_;rintro e w6 ⟨rfl,hq,ho⟩;have HAO:=za hq;replace x0:=ho.cell x0 (fun h=>h.2 rfl);replace x1:=ho.cell x1 (fun h=>h.2 rfl);clear hq ho HAC)
        | (refine(HAO.out.step hwg 2 d 0 ((j:Int)+1) 0 0 ⟨#[]⟩ 0 (stD j k d key (zbc k d)) (zoq hn12 hmod) SL.out).mono ?_;rintro e w6 ⟨rfl,hq,ho⟩;have HAD:=za hq;replace x0:=ho.cell x0 (fun h=>h.2 rfl);replace x1:=ho.cell x1 (fun h=>h.2 rfl);clear hq ho HAO)))
      have HML:Hid ((memH (stD j k d key (zbc k d)).holds ⟨key,1⟩).length=lf):=(show _=_ from by rw[show memH (stD j k d key (zbc k d)).holds ⟨key,1⟩=zbc k d from zdl];exact HLN.out)
      have HLV:Hid (yq (stD j k d key (zbc k d)) d=(j:Int)+1):=(show _=_ from by rw[HLF.out];simp)
      have HLL:Hid ((stD j k d key (zbc k d)).zv0.length≤9223372036854775807):=(show _≤_ from by show(lvD j d).length≤_;rw[Uw];omega)
      go_wp2_with (first
       | (go_at_call 37;refine(HAD.out.holders key 1 lf (HFD.out _ HM0.out) HML.out).mono ?_;rintro e w6 ⟨p,q,rfl,hq,hg⟩;replace HAD:=za hq;replace x0:=hg.cell x0 (by simp);replace x1:=hg.cell x1 (by simp);clear hq hg)
       | (go_at_call 23;refine(HAD.out.life d ((j:Int)+1) HLL.out HLV.out).mono ?_;rintro e w6 ⟨rfl,hq,hg⟩;replace HAD:=za hq;replace x0:=hg.cell x0 (by simp);replace x1:=hg.cell x1 (by simp);clear hq hg)
       | (go_at_call 34;refine(HAD.out.look key 0 rfl).mono ?_;rintro e w6 ⟨rfl,hq,hg⟩;replace HAD:=za hq;replace x0:=hg.cell x0 (by simp);replace x1:=hg.cell x1 (by simp);clear hq hg)
       | (go_at_call 22;refine(HAD.out.step hwg 4 d 0 ((d:Int)+1) 0 1 key 0 (stD j k d key (zbc k d)) (zir hn12 hmod ⟨by omega,by omega⟩ HK.out) SS.out).mono ?_;rintro e w6 ⟨rfl,hq,ho⟩;replace HAD:=za hq;replace x0:=ho.cell x0 (fun h=>h.2 rfl);replace x1:=ho.cell x1 (fun h=>h.2 rfl);clear hq ho))
      have HF0:Hid (Fo j k d key 0 (stD j k d key (zbc k d))):=ztk hk0 (by omega)
      have HX:=za (And.intro x0 x1);clear HML HLV HLL HLF HFD HM0 SO SL SS HLN HF x0 x1
      go_loopw [17] (fun i wr=>∃(c:Nat) (L:Tab),c≤j∧i = .int .i64 c∧Fo j k d key c L∧St w g tb L wr∧wr.cell? ⟨g,0,none⟩=some (.string key)∧wr.cell? ⟨g,1,none⟩=some (.int .i64 1)) (fun i _=>j-(intOf i).toNat)
      case atStart=>exact⟨0,_,by omega,rfl,HF0.out,HAD.out,HX.out.1,HX.out.2⟩
      case round=>
       obtain⟨c,L,hc,rfl,hfo,hst,x0,x1⟩:=hrel;clear HF0 HX HAD
       cases hfo with
       | opn M hl ha hm=>
        have hcj:c<j:=by have:=all_le c M ha;omega
        have HST:=za hst;have HSTEP:=za (fo_step (k:=k) (key:=key) hmod hcj hn12 hl ha hm);have HLL:Hid ((stD j k d key M).zv0.length≤9223372036854775807):=(show _≤_ from by show(lvD j d).length≤_;rw[Uw];omega)
        have HV:Hid (0≤yq (stD j k d key M) c∧yq (stD j k d key M) c≤1000000):=(show _∧_ from by rw[zca hmod hcj M];split <;> omega)
        have HGD:=za (zir (k:=k) (d:=d) (M:=M) (key:=key) (zvx:=yq (stD j k d key M) c) hn12 hcj HV.out HK.out);obtain⟨v,hvv⟩:∃v,yq (stD j k d key M) c=v:=⟨_,rfl⟩;rw[hvv] at HSTEP HV HGD;have HLV:=za hvv;clear hst ha hm hvv
        go_wp2_with (first
         | (go_at_call 34;refine(HST.out.look key 0 rfl).mono ?_;rintro e w7 ⟨rfl,hq,hg⟩;replace HST:=za hq;replace x0:=hg.cell x0 (by simp);replace x1:=hg.cell x1 (by simp);clear hq hg)
         | (go_at_call 23;refine(HST.out.life c v HLL.out HLV.out).mono ?_;rintro e w7 ⟨rfl,hq,hg⟩;replace HST:=za hq;replace x0:=hg.cell x0 (by simp);replace x1:=hg.cell x1 (by simp);clear hq hg)
         | (go_at_call 22;refine(HST.out.step hwg 4 c 0 v 0 1 key 0 _ HGD.out rfl).mono ?_;rintro e w7 ⟨rfl,hq,ho⟩;have HDN:=za hq;replace x0:=ho.cell x0 (fun h=>h.2 rfl);replace x1:=ho.cell x1 (fun h=>h.2 rfl);clear hq ho))
        go_roundw
        case rel=>exact⟨c+1,_,by omega,rfl,HSTEP.out,HDN.out,x0,x1⟩
        case measure=>simp[intOf];omega
       | dne M hl hm=>
        have HST:=za hst;have HLK:Hid (look (stE j k d key M) key=1):=zls;have HCL:=za (ztf (k:=k) (o:=(j:Int)+1) (zv0:=lvD j d) (key:=key) (M:=M));have HMM:Hid (memH (stE j k d key M).holds ⟨key,1⟩=M):=dne_mem;have HMF:Hid (Xw (memH (stE j k d key M).holds ⟨key,1⟩)):=(show Xw _ from by rw[HMM.out];exact Vc ⟨hm,by omega⟩)
        have HML:Hid ((memH (stE j k d key M).holds ⟨key,1⟩).length=k):=(show _=_ from by rw[HMM.out];exact hl)
        clear hst hm hl
        rcases Nat.lt_or_ge c j with hcj|hcj
        all_goals
         go_wp2_with (first
          | (go_at_call 34;refine(HST.out.look key 1 HLK.out).mono ?_;rintro e w7 ⟨rfl,hq,hg⟩;replace HST:=za hq;replace x0:=hg.cell x0 (by simp);replace x1:=hg.cell x1 (by simp);clear hq hg)
          | (go_at_call 37;refine(HST.out.holders key 1 k HMF.out HML.out).mono ?_;rintro e w7 ⟨p,q,rfl,hq,hg⟩;replace HST:=za hq;replace x0:=hg.cell x0 (by simp);replace x1:=hg.cell x1 (by simp);clear hq hg)
          | (go_at_call 32;refine(HST.out.call 1 1 1 true 0 HCL.out).mono ?_;rintro e w7 ⟨rfl,hq,hg⟩;replace HST:=za hq;replace x0:=hg.cell x0 (by simp);replace x1:=hg.cell x1 (by simp);clear hq hg)
          | (go_at_call 10;refine(qd _).mono ?_;rintro e w7 ⟨rfl,hg⟩;replace HST:=za (HST.out.grown hg);clear hg))
         go_ret
         exact⟨rfl,HST.out.base⟩
def zec (T:Tab) (n:Int) (i:ID):Bool:=decide (n∈memH T.holds i)
def zo5 (T:Tab) (n:Int) (i:ID):Bool:=!zec T n i
theorem zrn (l:List Int) (n:Int):(zt (l.map fun n=>(n,())) n).isSome=decide (n∈l):=by
 induction l with
 | nil=>simp[zt]
 | cons x r ih=>
  simp only[List.map_cons,zt,List.mem_cons]
  by_cases h:x=n
  ·subst h;simp
  ·rw[if_neg h]
   have:¬n=x:=fun e=>h e.symm
   rw[ih];simp[this]
theorem zpi (s:ye) (n:Int) (W:World) (h:qr W s):(Instr.lookup 127 (.map (some s.blk)) (.int .i64 n) true).run Tryz.prog W = .ok (.tuple #[.agg #[],.bool (decide (n∈s.mem))]) W:=by
 have h1:=zw.lookup Qn Tryz.underlying127 (zvs W) h n true;rw[zrn] at h1;refine h1.trans ?_
 cases zt (s.mem.map fun n=>(n,())) n <;> rfl
theorem zph (n:Int) (W:World):(Instr.lookup 127 (.map none) (.int .i64 n) true).run Tryz.prog W = .ok (.tuple #[.agg #[],.bool false]) W:=by kernel_rfl
section
variable {w : World}
set_option maxRecDepth 100000 in
theorem has_any (s:ye) (h:qr w s) (n:Int):Calls Tryz.prog 104 #[.map (some s.blk),.int .i64 n] w fun e w'=>e = .returned (.bool (decide (n∈s.mem)))∧w.grownBy w' none:=by
 have hl:=zpi s n w h;clear h;generalize decide (n∈s.mem)=d at *
 go_enter Tryz.func104,Tryz.ntmps104
 go_wp2
 go_ret
 exact⟨rfl,zc _ _ _⟩
set_option maxRecDepth 100000 in
theorem has_nil (n:Int):Calls Tryz.prog 104 #[.map none,.int .i64 n] w fun e w'=>e = .returned (.bool false)∧w.grownBy w' none:=by
 have hl:=fun W=>zph n W
 go_enter Tryz.func104,Tryz.ntmps104
 go_wp2
 go_ret
 exact⟨rfl,zc _ _ _⟩
variable {tb : Nat} {T : Tab}
set_option maxRecDepth 100000 in
theorem zt4 (h:yh w tb T) (i:ID) (n:Int) (b1 b2:Nat) (h1:w.cell? ⟨b1,0,none⟩=some (.pointer (some ⟨tb,0,none⟩))) (h2:w.cell? ⟨b2,0,none⟩=some (.int .i64 n)) :
  Calls Tryz.prog 103 #[zx i,.pointer (some ⟨b1,0,none⟩),.pointer (some ⟨b2,0,none⟩)] w fun e w'=>e = .returned (.bool (zec T n i))∧w.grownBy w' none:=by
 obtain⟨k,v⟩:=i;have l1:=yo h1;have l2:=yo h2;have htb:=h.tlt;simp only[zx]
 cases hr:zt T.holds ⟨k,v⟩ with
 | none=>
  have hl:=ud T.hb T.holds k v none hr;have HM:Hid (zec T n ⟨k,v⟩=false):=(show _=_ from by unfold zec memH;rw[hr];simp)
  have c7:=h.c7;have hh:=h.holds;simp only[Option.map_none] at hl;have HN:Hid (∀W:World,Calls Tryz.prog 104 #[.map none,.int .i64 n] W fun e w'=>e = .returned (.bool false)∧W.grownBy w' none):=fun W=>has_nil n
  clear h
  go_enter Tryz.func103,Tryz.ntmps103
  go_wp2;refine zo (by kernel_rfl) (by kernel_rfl) ?_
  repeat (any_goals (first|go_big_quiet_step ((go_at_call 104;exact zq (HN.out _)))|quiet_step ((go_at_call 104;exact zq (HN.out _)))))
  refine wpQuiet_nil ?_;intro _ hw';obtain⟨x,hw''⟩:=hw';subst hw'';go_wp2
  go_ret
  exact⟨by rw[HM.out];rfl,by repeat (first|exact zd _|exact zc _ _ _|refine zi ?_ _|refine zg ?_ _|refine zf ?_)⟩
 | some s=>
  have hl:=ud T.hb T.holds k v (some s) hr;have HM:Hid (zec T n ⟨k,v⟩=decide (n∈s.mem)):=(show _=_ from by unfold zec memH;rw[hr];rfl)
  have c7:=h.c7;have hh:=h.holds;have hs:=h.hsets _ (yd hr);simp only[Option.map_some] at hl;have HN:Hid (∀W:World,w.grownBy W none→Calls Tryz.prog 104 #[.map (some s.blk),.int .i64 n] W fun e w'=>e = .returned (.bool (decide (n∈s.mem)))∧W.grownBy w' none):=fun W hg=>has_any s (zw.kept hs hg (by simp)) n
  clear h hs;generalize decide (n∈s.mem)=d at *
  go_enter Tryz.func103,Tryz.ntmps103
  go_wp2;refine zo (by kernel_rfl) (by kernel_rfl) ?_
  repeat (any_goals (first|go_big_quiet_step ((go_at_call 104;exact zq (HN.out _ (by repeat (first|exact zd _|exact zc _ _ _|refine zi ?_ _|refine zg ?_ _|refine zf ?_)))))|quiet_step ((go_at_call 104;exact zq (HN.out _ (by repeat (first|exact zd _|exact zc _ _ _|refine zi ?_ _|refine zg ?_ _|refine zf ?_)))))))
  refine wpQuiet_nil ?_;intro _ hw';obtain⟨x,hw''⟩:=hw';subst hw'';go_wp2
  go_ret
  exact⟨by rw[HM.out];rfl,by repeat (first|exact zd _|exact zc _ _ _|refine zi ?_ _|refine zg ?_ _|refine zf ?_)⟩
end
def Zu {α:Type} (W:World) (sz:Nat) (enc:α→List Value) (v:Value) (l:List α):Prop:=
 ∃p cap,v = .slice p l.length cap∧(l = []∨∃g,p=some ⟨g,0,none⟩∧∀i,(hi:i<l.length)→∀j u,(enc l[i])[j]? = some u→W.cell? ⟨g,i*sz+j,none⟩=some u)
theorem uu.lread {α:Type} {W:World} {E:TypeId} {sz:Nat} {enc:α→List Value} {v:Value} {l:List α} (he:∀x,(enc x).length=sz) (h:uu W E sz enc v l):Zu W sz enc v l:=by
 obtain⟨p,cap,rfl,-,-⟩:=h.form;refine⟨p,cap,rfl,?_⟩
 rcases h.at he with h0|⟨g,c,e,hc,-⟩
 ·exact Or.inl h0
 ·injection e with e1 e2 e3
  exact Or.inr ⟨g,e1,hc⟩
section
variable {W : World}
set_option maxRecDepth 100000 in
theorem zk6 {va vb:Value} {l:List Int} (ha:Zu W 1 Yl va l) (hb:Zu W 1 Yl vb l) (hl:l.length≤1000000):Calls Tryz.prog 151 #[va,vb] W fun e w'=>e = .returned (.bool true)∧W.grownBy w' none:=by
 obtain⟨pa,ca,rfl,ha⟩:=ha;obtain⟨pb,cb,rfl,hb⟩:=hb;have HA:=za ha;have HB:=za hb;clear ha hb
 go_enter Tryz.func151,Tryz.ntmps151
 go_wp2
 go_loopw [5] (fun x wr=>∃k:Nat,k≤l.length∧x = .int .i64 k∧W.grownBy wr none) (fun x _=>l.length-(intOf x).toNat)
 case atStart=>exact⟨0,Nat.zero_le _,rfl,zd _⟩
 case round=>
  obtain⟨k,hk,rfl,hg⟩:=hrel;have HG:=za hg
  by_cases hlt:k<l.length
  ·obtain⟨ga,rfl,ea⟩:=HA.out.resolve_left (fun e=>by rw[e] at hlt;simp at hlt)
   obtain⟨gb,rfl,eb⟩:=HB.out.resolve_left (fun e=>by rw[e] at hlt;simp at hlt)
   have fa:wr.cell? ⟨ga,k,none⟩=some (.int .i64 l[k]):=by
    have:=hg.cell (ea k hlt 0 _ rfl) (by simp)
    simpa using this
   have fb:wr.cell? ⟨gb,k,none⟩=some (.int .i64 l[k]):=by
    have:=hg.cell (eb k hlt 0 _ rfl) (by simp)
    simpa using this
   have hd:(l[k] != l[k])=false:=by simp
   clear ea eb hg;generalize l[k]=z at *;go_wp2
   go_quiet (fail)
   go_wp2
   go_roundw
   case rel=>exact⟨k+1,by omega,by go_num,ze HG.out (zj _ _)⟩
   case measure=>simp[intOf];omega
  ·obtain rfl:k=l.length:=by omega
   clear hg;go_wp2
   go_ret
   exact⟨rfl,HG.out⟩
end
def PredI (W:World) (fv:Value) (f:ID→Bool) (bs:Nat→Prop):Prop:=
 ∃g cap,fv = .func (.func g) #[] cap∧(∀args w,(callFunc g args).run Tryz.prog w = .ok (.enter g args) w)∧∀(i:ID) (w:World),(∀k,bs k→w.heap[k]? = W.heap[k]?)→W.heap.size≤w.heap.size→Calls Tryz.prog g (#[zx i]++cap) w fun e w'=>e = .returned (.bool (f i))∧w.grownBy w' none
section
variable {W : World} {bs : Nat → Prop}
set_option maxRecDepth 100000 in
theorem ztu {fv:Value} {f:ID→Bool} (hf:PredI W fv f bs) {v:Value} {l:List ID} (h:Zu W 2 ya v l) (hl:l.length≤1000000) (hbs:∀k,bs k→k<W.heap.size) :
  Calls Tryz.prog 163 #[v,fv] W fun e w'=>e = .returned (.int .i64 (Yu f l))∧W.grownBy w' none:=by
 obtain⟨pv,cv,rfl,hv⟩:=h;obtain⟨g,cap,rfl,hent,hcall⟩:=hf;have HV:=za hv;have HC:=za hcall;have HB:=za hbs;clear hv hcall hbs
 go_enter Tryz.func163,Tryz.ntmps163
 go_wp2
 go_loopw [8] (fun x wr=>∃k:Nat,k≤l.length∧x = .int .i64 k∧Ze f l k∧W.grownBy wr none) (fun x _=>l.length-(intOf x).toNat)
 case atStart=>exact⟨0,Nat.zero_le _,rfl,Yv,zd _⟩
 case round=>
  obtain⟨k,hk,rfl,hno,hg⟩:=hrel;have HNO:=za hno;have HG:=za hg;clear hno
  by_cases hlt:k<l.length
  ·obtain⟨ga,rfl,ea⟩:=HV.out.resolve_left (fun e=>by rw[e] at hlt;simp at hlt)
   have fa:wr.cell? ⟨ga,k*2,none⟩=some (.string l[k].key):=hg.cell (ea k hlt 0 _ rfl) (by simp)
   have fa1:wr.cell? ⟨ga,k*2+1,none⟩=some (.int .i64 l[k].zvz):=hg.cell (ea k hlt 1 _ rfl) (by simp)
   have HCL:Hid (Calls Tryz.prog g (#[.agg #[.string l[k].key,.int .i64 l[k].zvz]]++cap) wr fun e w'=>e = .returned (.bool (f l[k]))∧wr.grownBy w' none):=(show Calls _ _ _ _ _ from HC.out l[k] wr (fun b hb=>HG.out.block b (HB.out b hb) (by simp)) HG.out.size)
   clear ea hg
   cases hp:f l[k] with
   | true=>
    rw[hp] at HCL;have HH:=za (zgv HNO.out hlt hp);clear hp;generalize l[k]=z at *
    go_wp2_with (go_at_fn g;refine HCL.out.mono ?_;rintro e w1 ⟨rfl,hg1⟩;have HG1:=za hg1;clear hg1)
    go_ret
    exact⟨by rw[HH.out];rfl,ze HG.out HG1.out⟩
   | false=>
    rw[hp] at HCL;have HN:=za (HNO.out.step hlt hp);clear hp;generalize l[k]=z at *
    go_wp2_with (go_at_fn g;refine HCL.out.mono ?_;rintro e w1 ⟨rfl,hg1⟩;have HG1:=za hg1;clear hg1)
    go_roundw
    case rel=>exact⟨k+1,by omega,by go_num,HN.out,ze HG.out HG1.out⟩
    case measure=>simp[intOf];omega
  ·obtain rfl:k=l.length:=by omega
   clear hg;go_wp2
   go_ret
   exact⟨by rw[ze7 HNO.out (Nat.le_refl _)];rfl,HG.out⟩
end
theorem zhs {P:Program} (w:World) (t e ty:TypeId) (z:Value) (ht:P.underlying t=some (.slice e)) (hv:∀w,(zeroValue e).run P w = .ok z w) (b o n c:Nat) (hn:0<n)
  (h1:∀v∈(Builtin.zeroCells z.cells n).toList,v.oneCell'=true) (hc:∀j,j<n*z.cells.size→(w.cell? ⟨b,o+j,none⟩).isSome=true) (hf:∀j,j<n*z.cells.size→w.frozen? ⟨b,o+j,none⟩=false) :
  (Builtin.clear_ #[t] ty #[.slice (some ⟨b,o,none⟩) n c]).run P w = .ok (.tuple #[]) (w.setCells b o (Builtin.zeroCells z.cells n).toList):=by
 have hl:(Builtin.zeroCells z.cells n).toList.length=n*z.cells.size:=by simp[Builtin.zeroCells]
 have hst:=run_storeCells_cells (P:=P) b o (Builtin.zeroCells z.cells n).toList 0 w (by rw[hl];simpa using hc) (by rw[hl];simpa using hf) h1
 simp only[Nat.add_zero] at hst;obtain⟨m,rfl⟩:∃m,n=m+1:=⟨n-1,by omega⟩
 simp[Builtin.clear_,run_underlying ht,hv,hst]
theorem zba (b:Nat):∀(vs:List Value) (o:Nat) (w:World),w.grownBy (w.setCells b o vs) (some b)
 | [],o,w=>⟨rfl,rfl,rfl,Nat.le_refl _,fun _ _ _=>rfl⟩
 | v :: r,o,w=>by
  have h:=zba b r (o+1) (w.setCell ⟨b,o,none⟩ v)
  exact⟨h.os,h.tape,h.output,Nat.le_trans (by simp[World.setCell]) h.size,fun k hk hn=>(h.block k (by simpa[World.setCell] using hk) hn).trans (Below.heap_setCell w _ _ k (fun e=>hn (by show some k=some b;rw[e])))⟩
structure KI (f:ID→Bool) (l:List ID) (j i:Nat) (d:List ID):Prop where
 len:d.length=l.length
 lt:i<j
 low:d.take i=(l.take j).filter fun x=>!f x
 high:∀t,i≤t→d[t]? = l[t]?
section
variable {f : ID → Bool} {l d : List ID} {i j : Nat}
theorem KI.start {k:Nat} (hno:Ze f l k) (hk:k<l.length) (hf:f l[k]=true):KI f l (k+1) k l:=by
 refine⟨rfl,Nat.lt_succ_self _,?_,fun _ _=>rfl⟩
 rw[List.take_succ_eq_append_getElem hk,List.filter_append];have h1:(l.take k).filter (fun x=>!f x)=l.take k:=by
  rw[List.filter_eq_self];intro x hx;obtain⟨a,ha,rfl⟩:=List.getElem_of_mem hx;rw[List.length_take] at ha;rw[List.getElem_take,hno a (by omega) (by omega)];rfl
 rw[h1];simp[hf]
theorem KI.skip (h:KI f l j i d) (hj:j<l.length) (hf:f l[j]=true):KI f l (j+1) i d:=by
 refine⟨h.len,by have:=h.lt;omega,?_,h.high⟩
 rw[List.take_succ_eq_append_getElem hj,List.filter_append,h.low];simp[hf]
theorem KI.keep (h:KI f l j i d) (hj:j<l.length) (hf:f l[j]=false):KI f l (j+1) (i+1) (d.set i l[j]):=by
 have hl:=h.len;have hlt:=h.lt;refine⟨by rw[List.length_set];exact hl,by omega,?_,fun t ht=>?_⟩
 ·rw[List.take_succ_eq_append_getElem hj,List.filter_append,←h.low,List.take_succ_eq_append_getElem (by rw[List.length_set];omega),List.getElem_set_self,List.take_set,List.set_eq_of_length_le (by rw[List.length_take];omega)]
  simp[hf]
 ·rw[List.getElem?_set_ne (by omega)]
  exact h.high t (by omega)
theorem KI.at (h:KI f l j i d) (hj:j<l.length):∃hd:j<d.length,d[j]=l[j]:=by
 have hd:j<d.length:=by rw[h.len];exact hj
 have:=h.high j (Nat.le_of_lt h.lt);rw[List.getElem?_eq_getElem hd,List.getElem?_eq_getElem hj] at this
 exact⟨hd,Option.some.inj this⟩
theorem KI.done (h:KI f l l.length i d):d.take i=l.filter fun x=>!f x:=by rw[h.low,List.take_length]
theorem zly (hno:Ze f l l.length):(l.filter fun x=>!f x)=l:=by
 rw[List.filter_eq_self];intro x hx;obtain⟨a,ha,rfl⟩:=List.getElem_of_mem hx;rw[hno a ha ha];rfl
theorem zol (h:Yu f l = -1):Ze f l l.length:=by
 unfold Yu at h
 cases e:l.findIdx? f with
 | some k=>rw[e] at h;simp only at h;omega
 | none=>
  intro a ha _;have:=(List.findIdx?_eq_none_iff.1 e) l[a] (List.getElem_mem ha);simpa using this
theorem zom (h:Yu f l≠-1):∃k:Nat,Yu f l=k∧∃hk:k<l.length,f l[k]=true∧Ze f l k:=by
 unfold Yu at *
 cases e:l.findIdx? f with
 | none=>rw[e] at h;exact absurd rfl h
 | some k=>
  obtain⟨hk,hf,hno⟩:=List.findIdx?_eq_some_iff_getElem.1 e
  exact⟨k,rfl,hk,hf,fun a ha hak=>by have:=hno a hak;simpa using this⟩
end
theorem zeroID (w:World):(zeroValue 54).run Tryz.prog w = .ok (.agg #[.string ⟨#[]⟩,.int .i64 0]) w:=by kernel_rfl
theorem zerosID (n:Nat):∀v∈(Builtin.zeroCells (Value.agg #[.string ⟨#[]⟩,.int .i64 0]).cells n).toList,v.oneCell'=true:=by
 intro v hv;simp only[Builtin.zeroCells,Value.cells,Array.toList_map,List.mem_map] at hv;obtain⟨a,_,rfl⟩:=hv;have:a%2=0∨a%2=1:=by omega
 rcases this with h|h <;> simp[h] <;> rfl
theorem zox {W w:World} {E:TypeId} {g cap i n:Nat} {d:List ID} (h:uu W E 2 ya (.slice (some ⟨g,0,none⟩) n cap) d) (hi:i≤d.length) (hw:∀k,k<i*2→w.cell? ⟨g,k,none⟩=W.cell? ⟨g,k,none⟩):Zu w 2 ya (.slice (some ⟨g,0,none⟩) i cap) (d.take i):=by
 refine⟨some ⟨g,0,none⟩,cap,by rw[List.length_take,Nat.min_eq_left hi],?_⟩
 rcases h.at jq with h0|⟨g',c',e,hc,-⟩
 ·left;rw[h0];simp
 ·injection e with e1 e2 e3
  cases e1
  refine Or.inr ⟨g,rfl,fun a ha j u hu=>?_⟩
  have ha':a<i:=by rw[List.length_take] at ha;omega
  rw[List.getElem_take] at hu;have hj:j<2:=by
   have:=(List.getElem?_eq_some_iff.1 hu).1;simpa[ya] using this
  rw[hw _ (by omega)]
  exact hc a (by omega) j u hu
end Go.Proofs.YtjfelfjobeeenaaGreat
