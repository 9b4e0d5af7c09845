/- starfishref19.part: the walk. Conditions: none, or as the theorems say. -/
import Derived.Test.YtbcbhlfjgobejaaGreatS35
set_option linter.unusedSimpArgs false
set_option linter.unusedVariables false
namespace Go.Proofs.YtbcbhlfjgobejaaGreat
set_option maxHeartbeats 200000000
open Go.RowKit Go.Sf Go.Shelf
variable {x:List Int} {i:Nat}
theorem zem (hb:BL x) (a b:Nat):yz ((ofB x).extract a b)=(x.take b).drop a:=by
 have e:(ofB x).extract a b=ofB ((x.take b).drop a):=by
  apply ByteArray.ext
  rw[ByteArray.data_extract]
  apply Array.ext'
  rw[Array.toList_extract];unfold ofB;simp only[List.extract_eq_take_drop,List.map_drop,List.map_take];rw[List.drop_take]
 rw[e,qy (λc hc=>hb c (List.mem_of_mem_take (List.mem_of_mem_drop hc)))]
theorem zlg (x:List Int) (a b:Nat):(ofB x).extract a b=ofB ((x.take b).drop a):=by
 apply ByteArray.ext
 rw[ByteArray.data_extract]
 apply Array.ext'
 rw[Array.toList_extract];unfold ofB;simp only[List.extract_eq_take_drop,List.map_drop,List.map_take];rw[List.drop_take]
noncomputable def partV (x:List Int):Array Value:=match saidP zo x with
 | none=>#[.int .i64 0,.int .i64 0,.int .i64 0,.string ⟨#[]⟩]
 | some p=>#[.int .i64 p.k,.int .i64 (p.index:Int),.int .i64 (p.count:Int),.string (ofB p.b)]
theorem last_ok {n:Nat} (h1:n≤230) (h2:¬(n=0∧1<i+1)):zk (i*230+n)=i+1:=by
 unfold zk
 rcases Nat.eq_zero_or_pos n with rfl|hn
 ·obtain rfl:i=0:=by omega
  decide
 ·rcases Nat.lt_or_ge n 230 with h|h
  ·have e1:(i*230+n) / 230=i:=by omega
   have e2:(i*230+n)%230=n:=by omega
   rw[e1,e2];omega
  ·obtain rfl:n=230:=by omega
   have e1:(i*230+230) / 230=i+1:=by omega
   have e2:(i*230+230)%230=0:=by omega
   rw[e1,e2];omega
theorem last_no (h:0<i):zk (i*230+0)≠i+1:=by
 unfold zk;have e1:(i*230+0) / 230=i:=by omega
 have e2:(i*230+0)%230=0:=by omega
 rw[e1,e2];omega
theorem zgz (p:Prt):Up p↔(1≤p.k∧p.k≤4611686018427387904∧1≤p.count∧p.count≤570∧p.index<p.count∧p.b.length≤230∧¬(p.index+1<p.count∧p.b.length≠230))∧¬(131072<(p.count-1)*230+p.b.length∧p.index+1=p.count)∧¬(p.index+1=p.count∧p.b.length=0∧1<p.count):=by
 constructor
 ·intro h
  have i1:=h.i1;refine⟨⟨h.k1,h.k2,h.c1,h.c2,h.i1,h.l1,λe=>e.2 (h.full (by omega))⟩,λe=>?_,λe=>?_⟩
  ·have:=(h.last e.2).1
   have e3:p.count-1=p.index:=by omega
   rw[e3] at e;omega
  ·have:=(h.last e.1).2
   rw[e.2.1,←e.1] at this
   exact last_no (by omega) this
 ·rintro⟨⟨a1,a2,a3,a4,a5,a6,a7⟩,b1,b2⟩
  refine⟨a1,a2,a3,a4,a5,a6,λe=>?_,λe=>?_⟩
  ·exact Classical.byContradiction λh=>a7 ⟨by omega,h⟩
  ·have e3:p.count-1=p.index:=by omega
   rw[e3] at b1;refine⟨by omega,?_⟩
   rw[last_ok a6 (λh=>b2 ⟨e,h.1,by omega⟩)]
   exact e
theorem zgg (s:ByteArray):s.toList=s.data.toList:=by
 exact ByteArray.toList_eq s
theorem str_beq {E:List Int} (hE:BL E) (hx:BL x):((ofB E).toList == (ofB x).toList)=decide (E=x):=by
 rw[Bool.eq_iff_iff,beq_iff_eq,decide_eq_true_iff,zgg,zgg]
 constructor
 ·intro h
  have h2:ofB E=ofB x:=by
   apply ByteArray.ext
   exact Array.ext' h
  rw[←qy hE,h2,qy hx]
 ·intro h;rw[h]
theorem Uc {fn:Func} {t u v z:Tmp} (h:fn.results = #[.tmp t,.tmp u,.tmp v,.tmp z]) (tmps:Array Value) (P:Program) (w:World) :
  (results fn tmps).run P w = .ok (.tuple #[tmps.getD t undef,tmps.getD u undef,tmps.getD v undef,tmps.getD z undef]) w:=by
 simp[results,h]
def Yr (K:Int) (I C m:Nat):Prop:=K<1∨4611686018427387904<K∨C<1∨570<C∨C≤I∨230<m∨(I+1<C∧m≠230)
def Zo (E x:List Int) (I C m:Nat):Prop:=E≠x∨(131072<(C-1)*230+m∧I+1=C)∨(I+1=C∧m=0∧1<C)
instance (K:Int) (I C m:Nat):Decidable (Yr K I C m):=by unfold Yr;infer_instance
instance (E x:List Int) (I C m:Nat):Decidable (Zo E x I C m):=by unfold Zo;infer_instance
def noneV:Array Value:=#[.int .i64 0,.int .i64 0,.int .i64 0,.string ⟨#[]⟩]
theorem zkp (hx:x.length=256) (hb:BL x) {K:Int} {I C m:Nat} (hK:K=s64 (num ((x.drop 1).take 8))) (hI:I=num ((x.drop 9).take 2)) (hC:C=num ((x.drop 11).take 2)) (hm:(m:Int)=x[13]'(by omega)) :
  (Yr K I C m→partV x=noneV)∧(¬Yr K I C m→Zo (xe zo ⟨K,I,C,(x.drop 14).take m⟩) x I C m→partV x=noneV)∧(¬Yr K I C m→¬Zo (xe zo ⟨K,I,C,(x.drop 14).take m⟩) x I C m→partV x = #[.int .i64 K,.int .i64 (I:Int),.int .i64 (C:Int),.string (ofB ((x.drop 14).take m))]):=by
 have hn:num ((x.drop 13).take 1)=m:=by
  have e:(x.drop 13).take 1 = [x[13]'(by omega)]:=by
   rw[List.drop_eq_getElem_cons (by omega),List.take_succ_cons,List.take_zero]
  rw[e]
  show 0*256+(x[13]'(by omega)).toNat=m
  omega
 have hP:yc x=⟨K,I,C,if m≤242 then (x.drop 14).take m else []⟩:=by unfold yc;rw[hn,←hK,←hI,←hC]
 have hl:m≤242→((x.drop 14).take m).length=m:=λh=>by rw[List.length_take,List.length_drop];omega
 have hnone:¬(Up (yc x)∧xe zo (yc x)=x)→partV x=noneV:=λh=>by
  unfold partV saidP;rw[if_neg h]
  rfl
 by_cases hm2:m≤230
 ·have hP2:yc x=⟨K,I,C,(x.drop 14).take m⟩:=by rw[hP,if_pos (by omega)]
  have hl2:=hl (by omega)
  rw[hP2] at hnone;refine⟨λh=>hnone λe=>?_,λh1 h2=>hnone λe=>?_,λh1 h2=>?_⟩
  ·obtain⟨⟨a1,a2,a3,a4,a5,a6,a7⟩,-,-⟩:=(zgz _).1 e.1
   simp only at a1 a2 a3 a4 a5 a6 a7;rw[hl2] at a7;unfold Yr at h;omega
  ·obtain⟨-,b1,b2⟩:=(zgz _).1 e.1
   simp only[hl2] at b1 b2
   rcases h2 with h2|h2|h2
   ·exact h2 e.2
   ·exact b1 h2
   ·exact b2 h2
  ·unfold Yr at h1
   unfold Zo at h2;have h3:Up ⟨K,I,C,(x.drop 14).take m⟩∧xe zo ⟨K,I,C,(x.drop 14).take m⟩=x:=by
    refine⟨(zgz _).2 ?_,Classical.byContradiction λe=>h2 (Or.inl e)⟩
    simp only[hl2];refine⟨⟨by omega,by omega,by omega,by omega,by omega,by omega,λe=>by omega⟩,λe=>h2 (Or.inr (Or.inl e)),λe=>h2 (Or.inr (Or.inr e))⟩
   unfold partV saidP;rw[hP2,if_pos h3]
 ·have hbad:Yr K I C m:=by unfold Yr;omega
  refine⟨λ_=>hnone λe=>?_,λh=>absurd hbad h,λh=>absurd hbad h⟩
  have a6:=e.1.l1;have a1:=e.1.i1;have h2:=e.2;rw[hP] at a6 h2;simp only at a6;have hlast:(xe zo (yc x)).length=256:=by rw[e.2];exact hx
  split at a6
  ·rename_i h242
   rw[hl h242] at a6;omega
  ·rename_i h242
   -- the length's byte would be nought
   rw[if_neg h242] at h2;have e2:=Xk (C:=zo) ⟨K,I,C,[]⟩;rw[h2] at e2;have e3:x[13]? = some 0:=by
    rw[e2];simp[vc,be]
   rw[List.getElem?_eq_getElem (by omega)] at e3
   injection e3 with e3
   omega
set_option maxRecDepth 100000 in
theorem zbt (hx:x.length=256) (hb:BL x) (W:World):Calls Tryz.prog 108 #[.string (ofB x)] W λe w'=>e = .returned (.tuple (partV x))∧W.grownBy w' none:=by
 have hsz:(ofB x).size=256:=by rw[yu];exact hx
 have hd:∀a n,(x.take (a+n)).drop a=(x.drop a).take n:=λa n=>by rw[List.drop_take];congr 1;omega
 have hbd:∀a n,BL ((x.drop a).take n):=λa n c hc=>hb c (List.mem_of_mem_drop (List.mem_of_mem_take hc))
 have hln:∀a n,((x.drop a).take n).length≤n:=λa n=>by rw[List.length_take];omega
 obtain⟨y1,w1,hcv1,hg1,hy1⟩:=Uy W ((ofB x).extract 1 9);rw[zem hb,hd 1 8] at hy1;have HN1:=zd (Qg hy1 (hbd 1 8) (hln 1 8));obtain⟨y2,w2,hcv2,hg2,hy2⟩:=Uy w1 ((ofB x).extract 9 11);rw[zem hb,hd 9 2] at hy2;have HN2:=zd (Qg hy2 (hbd 9 2) (Nat.le_trans (hln 9 2) (by omega)))
 obtain⟨y3,w3,hcv3,hg3,hy3⟩:=Uy w2 ((ofB x).extract 11 13);rw[zem hb,hd 11 2] at hy3;have HN3:=zd (Qg hy3 (hbd 11 2) (Nat.le_trans (hln 11 2) (by omega)))
 have HG3:=zd (zh (zh hg1 hg2) hg3);have q1:num ((x.drop 1).take 8)<256 ^ 8:=Nat.lt_of_lt_of_le (zai _ 0 0 (by omega) (λb h=>by have:=hbd 1 8 b h;omega)) (Nat.pow_le_pow_right (by omega) (by have:=hln 1 8;omega))
 have q2:num ((x.drop 9).take 2)<256 ^ 2:=Nat.lt_of_lt_of_le (zai _ 0 0 (by omega) (λb h=>by have:=hbd 9 2 b h;omega)) (Nat.pow_le_pow_right (by omega) (by have:=hln 9 2;omega))
 have q3:num ((x.drop 11).take 2)<256 ^ 2:=Nat.lt_of_lt_of_le (zai _ 0 0 (by omega) (λb h=>by have:=hbd 11 2 b h;omega)) (Nat.pow_le_pow_right (by omega) (by have:=hln 11 2;omega))
 have h13:13<x.length:=by omega
 have q4:=zlr hb h13 (by rw[hsz];omega)
 have hb13:=hb x[13] (List.getElem_mem h13);have hw1:wrap64 (num ((x.drop 1).take 8):Int)=s64 (num ((x.drop 1).take 8)):=by unfold wrap64 s64;split <;> omega
 have q2':num ((x.drop 9).take 2)<65536:=q2;have q3':num ((x.drop 11).take 2)<65536:=q3;obtain⟨m,hm⟩:∃m:Nat,(m:Int)=x[13]:=⟨x[13].toNat,by omega⟩
 have hcs:=zkp hx hb rfl rfl rfl hm;rw[←hm] at q4;have hm255:m≤255:=by omega
 have he14:=zlg x 14 (14+m);rw[hd 14 m] at he14;have HBS:=zd (qy (hbd 14 m));have hbl:m≤230→((x.drop 14).take m).length≤230:=λh=>by rw[List.length_take];omega
 clear hy1 hy2 hy3 hg1 hg2 hg3 hbd hln hd q1 q2 q3 hb13 hm h13;generalize num ((x.drop 1).take 8)=N1 at *;generalize num ((x.drop 9).take 2)=I at *;generalize num ((x.drop 11).take 2)=C at *;generalize (x.drop 14).take m=bs at *;generalize s64 N1=K at *;have HCS:=zd hcs;have HBLN:=zd hbl;clear hcs hbl;have hpa:=Ud 131072 (by omega)
 rw[if_neg (by omega),show zk (131072:Int).toNat=570 by decide] at hpa
 have HPA:=zd hpa;clear hpa
 go_enter Tryz.func108,Tryz.ntmps108
 go_upto_region 2 with (first
  | rw[hcv1]
  | (go_at_call 179;refine HN1.out.mono ?_;rintro e w9 ⟨rfl,h5⟩;obtain rfl:w1=w9:=h5.symm))
 go_upto_region 3 with (first
  | rw[hcv2]
  | (go_at_call 179;refine HN2.out.mono ?_;rintro e w9 ⟨rfl,h5⟩;obtain rfl:w2=w9:=h5.symm))
 go_upto_region 5 with (first
  | rw[hcv3]
  | (go_at_call 179;refine HN3.out.mono ?_;rintro e w9 ⟨rfl,h5⟩;obtain rfl:w3=w9:=h5.symm))
 clear hcv1 hcv2 hcv3 HN1 HN2 HN3 q4
 go_cut [62] from 29 to 62 (λc wx=>c = .bool (decide (Yr K I C m))∧wx=w3)
 case first=>
  have HD:Hid (∀b:Bool,(b=true↔Yr K I C m)→Value.bool b=Value.bool (decide (Yr K I C m))):=(λb h=>by
   congr 1
   rw[Bool.eq_iff_iff,decide_eq_true_iff]
   exact h)
  by_cases c1:K<1
  ·go_wp2_with (go_at_call 16;refine(HPA.out _).mono ?_;rintro e w9 ⟨rfl,h5⟩;obtain rfl:w3=w9:=h5.symm)
   go_meet
   case rel=>exact⟨HD.out _ (by simp only[Yr];simp;omega),rfl⟩
  ·skip
   by_cases c2:4611686018427387904<K
   ·go_wp2_with (go_at_call 16;refine(HPA.out _).mono ?_;rintro e w9 ⟨rfl,h5⟩;obtain rfl:w3=w9:=h5.symm)
    go_meet
    case rel=>exact⟨HD.out _ (by simp only[Yr];simp;omega),rfl⟩
   ·skip
    by_cases c3:C<1
    ·go_wp2_with (go_at_call 16;refine(HPA.out _).mono ?_;rintro e w9 ⟨rfl,h5⟩;obtain rfl:w3=w9:=h5.symm)
     go_meet
     case rel=>exact⟨HD.out _ (by simp only[Yr];simp;omega),rfl⟩
    ·skip
     by_cases c4:570<C
     ·go_wp2_with (go_at_call 16;refine(HPA.out _).mono ?_;rintro e w9 ⟨rfl,h5⟩;obtain rfl:w3=w9:=h5.symm)
      go_meet
      case rel=>exact⟨HD.out _ (by simp only[Yr];simp;omega),rfl⟩
     ·skip
      by_cases c5:C≤I
      ·go_wp2_with (go_at_call 16;refine(HPA.out _).mono ?_;rintro e w9 ⟨rfl,h5⟩;obtain rfl:w3=w9:=h5.symm)
       go_meet
       case rel=>exact⟨HD.out _ (by simp only[Yr];simp;omega),rfl⟩
      ·skip
       by_cases c6:230<m
       ·go_wp2_with (go_at_call 16;refine(HPA.out _).mono ?_;rintro e w9 ⟨rfl,h5⟩;obtain rfl:w3=w9:=h5.symm)
        go_meet
        case rel=>exact⟨HD.out _ (by simp only[Yr];simp;omega),rfl⟩
       ·skip
        by_cases c7:I+1<C
        ·go_wp2_with (go_at_call 16;refine(HPA.out _).mono ?_;rintro e w9 ⟨rfl,h5⟩;obtain rfl:w3=w9:=h5.symm)
         go_meet
         case rel=>exact⟨HD.out _ (by simp only[Yr];simp;omega),rfl⟩
        ·skip
         by_cases c8:m=230
         ·have HC8:=zd c8
          have hc8:((m:Int) != 230)=false:=by simp;omega
          clear c8
          go_wp2_with (go_at_call 16;refine(HPA.out _).mono ?_;rintro e w9 ⟨rfl,h5⟩;obtain rfl:w3=w9:=h5.symm)
          go_meet
          case rel=>exact⟨HD.out _ (by have:=HC8.out;simp only[Yr];simp;omega),rfl⟩
         ·go_wp2_with (go_at_call 16;refine(HPA.out _).mono ?_;rintro e w9 ⟨rfl,h5⟩;obtain rfl:w3=w9:=h5.symm)
          go_meet
          case rel=>exact⟨HD.out _ (by simp only[Yr];simp;omega),rfl⟩
 case rest=>
  obtain⟨rfl,h⟩:=hcut;generalize hwc:wc=w4 at *;clear hwc;subst h
  by_cases hbad:Yr K I C m
  ·have hdb:decide (Yr K I C m)=true:=by simpa using hbad
   have HZ:=zd (HCS.out.1 hbad);rw[hdb];go_wp2
   (try simp only[Exit.inBlock,Exit.then])
   refine bodyPost_ret (Uc rfl _ _ _) rfl ?_
   exact⟨by rw[HZ.out];rfl,HG3.out⟩
  ·have hdb:decide (Yr K I C m)=false:=by simpa using hbad
   rw[hdb];have HBAD:=zd hbad;have hb7:1≤K∧C≤570∧I<C∧m≤230∧K≤4611686018427387904:=by unfold Yr at hbad;omega
   obtain⟨a1,a2,a3,a4,a5⟩:=hb7;clear hbad hdb;obtain⟨k,rfl⟩:∃k:Nat,K=k:=⟨K.toNat,by omega⟩
   have HBK:Hid (∀w,Calls Tryz.prog 23 #[.int .i64 (k:Int),.int .i64 (I:Int),.int .i64 (C:Int),.string (ofB bs)] w λe w'=>e = .returned (.string (ofB (xe zo ⟨k,I,C,bs⟩)))∧w.grownBy w' none):=(show ∀w,Calls _ _ _ _ _ from λw=>by
    have:=Xn k I C (ofB bs) (by omega) (by omega) (by omega) (by rw[yu];exact HBLN.out a4) w
    rw[HBS.out] at this
    exact this)
   have HCB:=zd HCS.out.2;have hm14:14+m≤256:=by omega
   go_upto_region 8 with fail
   rw[he14];generalize hE:xe zo ⟨(k:Int),I,C,bs⟩=E at *;have HEE:=zd hE;clear hE
   go_cut [101] from 67 to 101 (λc wx=>c = .bool (decide (Zo E x I C m))∧W.grownBy wx none)
   case first=>
    have HD:Hid (∀b:Bool,(b=true↔Zo E x I C m)→Value.bool b=Value.bool (decide (Zo E x I C m))):=(λb h=>by
     congr 1
     rw[Bool.eq_iff_iff,decide_eq_true_iff]
     exact h)
    have hq:((ofB E).toList == (ofB x).toList)=decide (E=x):=str_beq (by rw[←HEE.out];exact Qn (by rw[←HBS.out];exact zc5 _)) hb
    by_cases d1:E=x
    ·have D1:=zd d1
     rw[decide_eq_true d1] at hq;clear d1
     by_cases d2:131072<((C:Int)-1)*230+(m:Int)
     ·skip
      by_cases d3:I+1=C
      ·have D3:=zd d3
       have d3b:((I:Int)+1 == (C:Int))=true:=by simp;omega
       clear d3
       by_cases d4:m=0
       ·have D4:=zd d4
        have d4b:((m:Int) == 0)=true:=by simp;omega
        clear d4
        by_cases d5:1<C
        ·skip
         go_wp2_with (go_at_call 23;refine(HBK.out _).mono ?_;rintro e w5 ⟨rfl,hg⟩;have HG5:=zd (zh HG3.out hg);clear hg)
         go_meet
         case rel=>exact⟨HD.out _ (by have:=D1.out;have:=D3.out;have:=D4.out;simp only[Zo];first|(simp[D1.out];done)|(simp[D1.out];omega)),HG5.out⟩
        ·skip
         go_wp2_with (go_at_call 23;refine(HBK.out _).mono ?_;rintro e w5 ⟨rfl,hg⟩;have HG5:=zd (zh HG3.out hg);clear hg)
         go_meet
         case rel=>exact⟨HD.out _ (by have:=D1.out;have:=D3.out;have:=D4.out;simp only[Zo];first|(simp[D1.out];done)|(simp[D1.out];omega)),HG5.out⟩
       ·have D4:=zd d4
        have d4b:((m:Int) == 0)=false:=by simp;omega
        clear d4
        by_cases d5:1<C
        ·skip
         go_wp2_with (go_at_call 23;refine(HBK.out _).mono ?_;rintro e w5 ⟨rfl,hg⟩;have HG5:=zd (zh HG3.out hg);clear hg)
         go_meet
         case rel=>exact⟨HD.out _ (by have:=D1.out;have:=D3.out;have:=D4.out;simp only[Zo];first|(simp[D1.out];done)|(simp[D1.out];omega)),HG5.out⟩
        ·skip
         go_wp2_with (go_at_call 23;refine(HBK.out _).mono ?_;rintro e w5 ⟨rfl,hg⟩;have HG5:=zd (zh HG3.out hg);clear hg)
         go_meet
         case rel=>exact⟨HD.out _ (by have:=D1.out;have:=D3.out;have:=D4.out;simp only[Zo];first|(simp[D1.out];done)|(simp[D1.out];omega)),HG5.out⟩
      ·have D3:=zd d3
       have d3b:((I:Int)+1 == (C:Int))=false:=by simp;omega
       clear d3
       by_cases d4:m=0
       ·have D4:=zd d4
        have d4b:((m:Int) == 0)=true:=by simp;omega
        clear d4
        by_cases d5:1<C
        ·skip
         go_wp2_with (go_at_call 23;refine(HBK.out _).mono ?_;rintro e w5 ⟨rfl,hg⟩;have HG5:=zd (zh HG3.out hg);clear hg)
         go_meet
         case rel=>exact⟨HD.out _ (by have:=D1.out;have:=D3.out;have:=D4.out;simp only[Zo];first|(simp[D1.out];done)|(simp[D1.out];omega)),HG5.out⟩
        ·skip
         go_wp2_with (go_at_call 23;refine(HBK.out _).mono ?_;rintro e w5 ⟨rfl,hg⟩;have HG5:=zd (zh HG3.out hg);clear hg)
         go_meet
         case rel=>exact⟨HD.out _ (by have:=D1.out;have:=D3.out;have:=D4.out;simp only[Zo];first|(simp[D1.out];done)|(simp[D1.out];omega)),HG5.out⟩
       ·have D4:=zd d4
        have d4b:((m:Int) == 0)=false:=by simp;omega
        clear d4
        by_cases d5:1<C
        ·skip
         go_wp2_with (go_at_call 23;refine(HBK.out _).mono ?_;rintro e w5 ⟨rfl,hg⟩;have HG5:=zd (zh HG3.out hg);clear hg)
         go_meet
         case rel=>exact⟨HD.out _ (by have:=D1.out;have:=D3.out;have:=D4.out;simp only[Zo];first|(simp[D1.out];done)|(simp[D1.out];omega)),HG5.out⟩
        ·skip
         go_wp2_with (go_at_call 23;refine(HBK.out _).mono ?_;rintro e w5 ⟨rfl,hg⟩;have HG5:=zd (zh HG3.out hg);clear hg)
         go_meet
         case rel=>exact⟨HD.out _ (by have:=D1.out;have:=D3.out;have:=D4.out;simp only[Zo];first|(simp[D1.out];done)|(simp[D1.out];omega)),HG5.out⟩
     ·skip
      by_cases d3:I+1=C
      ·have D3:=zd d3
       have d3b:((I:Int)+1 == (C:Int))=true:=by simp;omega
       clear d3
       by_cases d4:m=0
       ·have D4:=zd d4
        have d4b:((m:Int) == 0)=true:=by simp;omega
        clear d4
        by_cases d5:1<C
        ·skip
         go_wp2_with (go_at_call 23;refine(HBK.out _).mono ?_;rintro e w5 ⟨rfl,hg⟩;have HG5:=zd (zh HG3.out hg);clear hg)
         go_meet
         case rel=>exact⟨HD.out _ (by have:=D1.out;have:=D3.out;have:=D4.out;simp only[Zo];first|(simp[D1.out];done)|(simp[D1.out];omega)),HG5.out⟩
        ·skip
         go_wp2_with (go_at_call 23;refine(HBK.out _).mono ?_;rintro e w5 ⟨rfl,hg⟩;have HG5:=zd (zh HG3.out hg);clear hg)
         go_meet
         case rel=>exact⟨HD.out _ (by have:=D1.out;have:=D3.out;have:=D4.out;simp only[Zo];first|(simp[D1.out];done)|(simp[D1.out];omega)),HG5.out⟩
       ·have D4:=zd d4
        have d4b:((m:Int) == 0)=false:=by simp;omega
        clear d4
        by_cases d5:1<C
        ·skip
         go_wp2_with (go_at_call 23;refine(HBK.out _).mono ?_;rintro e w5 ⟨rfl,hg⟩;have HG5:=zd (zh HG3.out hg);clear hg)
         go_meet
         case rel=>exact⟨HD.out _ (by have:=D1.out;have:=D3.out;have:=D4.out;simp only[Zo];first|(simp[D1.out];done)|(simp[D1.out];omega)),HG5.out⟩
        ·skip
         go_wp2_with (go_at_call 23;refine(HBK.out _).mono ?_;rintro e w5 ⟨rfl,hg⟩;have HG5:=zd (zh HG3.out hg);clear hg)
         go_meet
         case rel=>exact⟨HD.out _ (by have:=D1.out;have:=D3.out;have:=D4.out;simp only[Zo];first|(simp[D1.out];done)|(simp[D1.out];omega)),HG5.out⟩
      ·have D3:=zd d3
       have d3b:((I:Int)+1 == (C:Int))=false:=by simp;omega
       clear d3
       by_cases d4:m=0
       ·have D4:=zd d4
        have d4b:((m:Int) == 0)=true:=by simp;omega
        clear d4
        by_cases d5:1<C
        ·skip
         go_wp2_with (go_at_call 23;refine(HBK.out _).mono ?_;rintro e w5 ⟨rfl,hg⟩;have HG5:=zd (zh HG3.out hg);clear hg)
         go_meet
         case rel=>exact⟨HD.out _ (by have:=D1.out;have:=D3.out;have:=D4.out;simp only[Zo];first|(simp[D1.out];done)|(simp[D1.out];omega)),HG5.out⟩
        ·skip
         go_wp2_with (go_at_call 23;refine(HBK.out _).mono ?_;rintro e w5 ⟨rfl,hg⟩;have HG5:=zd (zh HG3.out hg);clear hg)
         go_meet
         case rel=>exact⟨HD.out _ (by have:=D1.out;have:=D3.out;have:=D4.out;simp only[Zo];first|(simp[D1.out];done)|(simp[D1.out];omega)),HG5.out⟩
       ·have D4:=zd d4
        have d4b:((m:Int) == 0)=false:=by simp;omega
        clear d4
        by_cases d5:1<C
        ·skip
         go_wp2_with (go_at_call 23;refine(HBK.out _).mono ?_;rintro e w5 ⟨rfl,hg⟩;have HG5:=zd (zh HG3.out hg);clear hg)
         go_meet
         case rel=>exact⟨HD.out _ (by have:=D1.out;have:=D3.out;have:=D4.out;simp only[Zo];first|(simp[D1.out];done)|(simp[D1.out];omega)),HG5.out⟩
        ·skip
         go_wp2_with (go_at_call 23;refine(HBK.out _).mono ?_;rintro e w5 ⟨rfl,hg⟩;have HG5:=zd (zh HG3.out hg);clear hg)
         go_meet
         case rel=>exact⟨HD.out _ (by have:=D1.out;have:=D3.out;have:=D4.out;simp only[Zo];first|(simp[D1.out];done)|(simp[D1.out];omega)),HG5.out⟩
    ·have D1:=zd d1
     rw[decide_eq_false d1] at hq;clear d1
     go_wp2_with (go_at_call 23;refine(HBK.out _).mono ?_;rintro e w5 ⟨rfl,hg⟩;have HG5:=zd (zh HG3.out hg);clear hg)
     go_meet
     case rel=>exact⟨HD.out _ (by have:=D1.out;simp only[Zo];first|(simp[D1.out];done)|(simp[D1.out];omega)),HG5.out⟩
   case rest=>
    obtain⟨rfl,hg⟩:=hcut;have HG:=zd hg;clear hg
    by_cases hbb:Zo E x I C m
    ·have hdb:decide (Zo E x I C m)=true:=by simpa using hbb
     have HZ:=zd (HCB.out.1 HBAD.out hbb);rw[hdb];go_wp2
     (try simp only[Exit.inBlock,Exit.then])
     refine bodyPost_ret (Uc rfl _ _ _) rfl ?_
     exact⟨by rw[HZ.out];rfl,HG.out⟩
    ·have hdb:decide (Zo E x I C m)=false:=by simpa using hbb
     have HZ:=zd (HCB.out.2 HBAD.out hbb);rw[hdb];go_wp2
     (try simp only[Exit.inBlock,Exit.then])
     refine bodyPost_ret (Uc rfl _ _ _) rfl ?_
     exact⟨by rw[HZ.out];rfl,HG.out⟩
end Go.Proofs.YtbcbhlfjgobejaaGreat
