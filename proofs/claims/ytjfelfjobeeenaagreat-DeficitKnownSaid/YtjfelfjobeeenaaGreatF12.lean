/- slices.symMergeCmpFunc at tasks, one on the left: walked. Conditions: a sorted row on the right. slices.symMergeCmpFunc at tasks, one on the right: walked. Conditions: a sorted row of two or more on the left. slices.symMergeCmpFunc at tasks, two or more on both sides: what the search has found, in plain Lean. Conditions: two sorted rows. slices.symMergeCmpFunc at tasks, two or more on both sides: walked. Conditions: two sorted rows; it merges fewer rightly. -/
import Derived.Test.YtjfelfjobeeenaaGreatF11
set_option linter.unusedSimpArgs false
set_option linter.unusedVariables false
namespace Go.Proofs.YtjfelfjobeeenaaGreat
open Go.RowKit Go.Sf Go.Shelf Go.Sort Go.Lib
theorem idxL (A Y B:List Tsk) (x:Tsk):(A ++ [x]++Y++B)[A.length]? = some x∧∀k,k<Y.length→∃y,Y[k]? = some y∧(A ++ [x]++Y++B)[A.length+1+k]? = some y:=by
 refine⟨by simp,fun k hk=>⟨Y[k],List.getElem?_eq_getElem hk,?_⟩⟩
 rw[List.append_assoc,List.append_assoc,List.getElem?_append_right (by omega),show A.length+1+k-A.length=k+1 from by omega]
 simp[List.getElem?_append_left hk,hk]
theorem callT (x y:Tsk) (W:World):Calls Tryz.prog 63 #[.agg #[.string x.id.key,.int .i64 x.id.ver,.int .i64 x.nd,.int .i64 x.held],.agg #[.string y.id.key,.int .i64 y.id.ver,.int .i64 y.nd,.int .i64 y.held]] W fun e w'=>e = .returned (.int .i64 (ordT x y))∧∃q os',w'=grow (W.drewN q) os':=orderT_any x y W
theorem ltT_t {x y:Tsk} (h:ordT x y<0):ltT x y=true:=decide_eq_true h
theorem ltT_f {x y:Tsk} (h:¬ordT x y<0):ltT x y=false:=decide_eq_false h
set_option maxHeartbeats 8000000 in
set_option maxRecDepth 1000000 in
theorem mergeL_any {w0:World} {blk off:Nat} {d0:Array Tsk} (T:TRow w0 blk off d0) (cap sz:Nat) (hz:sz=d0.size) (A Y B:List Tsk) (x:Tsk) (w:World) (za zm zb:Int) (S:LW w0 blk off (A ++ [x]++Y++B) w) (hs:d0.size=(A ++ [x]++Y++B).length) (hY:Srt ltT Y)
  (ha:za=(A.length:Nat)) (hm:zm=((A.length+1:Nat):Int)) (hb:zb=((A.length+1+Y.length:Nat):Int)) :
  Calls Tryz.prog 169 #[.slice (some ⟨blk,off,none⟩) sz cap,.int .i64 za,.int .i64 zm,.int .i64 zb,.func (.func 63) #[] #[]] w fun e w'=>e = .returned (.tuple #[])∧MPost w0 blk off A ([x]++Y) B w':=by
 obtain⟨a,ea⟩:∃a,a=A.length:=⟨_,rfl⟩
 obtain⟨m,em⟩:∃m,m=a+1:=⟨_,rfl⟩
 obtain⟨b,eb⟩:∃b,b=m+Y.length:=⟨_,rfl⟩
 have hN:sz<4611686018427387904:=by rw[hz];exact T.sz
 have hbs:b≤sz:=by rw[hz,hs,eb,em,ea];simp;omega
 have hmb:m≤b:=by omega
 have HTC:Hid (∀W,LW w0 blk off (A ++ [x]++Y++B) W→TC W blk (off+a*4) x∧∀h,m≤h→h<b→∃y,Y[h-m]? = some y∧TC W blk (off+h*4) y):=(show ∀W,_→_ from fun W hW=>⟨by rw[ea];exact hW.tc T hs (idxL A Y B x).1,fun h h1 h2=>by
  obtain⟨y,g1,g2⟩:=(idxL A Y B x).2 (h-m) (by omega)
  rw[show A.length+1+(h-m)=h from by omega] at g2
  exact⟨y,g1,hW.tc T hs g2⟩⟩)
 have HTD:Hid (∀W t,t<Y.length→LW w0 blk off (A++Y.take t ++ [x]++Y.drop t++B) W→∃y,TD W blk (off+(a+t)*4) x∧TD W blk (off+(a+t+1)*4) y∧LW w0 blk off (A++Y.take (t+1) ++ [x]++Y.drop (t+1)++B) (put4 (put4 W blk (off+(a+t)*4) y) blk (off+(a+t+1)*4) x).drew):=(show ∀W t,_→_→_ from fun W t ht hW=>by
  have hP:(A++Y.take t).length=a+t:=by simp;omega
  have e1:A++Y.take t ++ [x]++Y.drop t++B=(A++Y.take t) ++ [x] ++ [Y[t]]++(Y.drop (t+1)++B):=by rw[List.drop_eq_getElem_cons ht];simp only[List.append_assoc,List.cons_append,List.nil_append]
  have e2:A++Y.take (t+1) ++ [x]++Y.drop (t+1)++B=(A++Y.take t) ++ [Y[t]] ++ [x]++(Y.drop (t+1)++B):=by rw[List.take_succ_eq_append_getElem ht];simp only[List.append_assoc,List.cons_append,List.nil_append]
  have hl:d0.size=((A++Y.take t) ++ [x] ++ [Y[t]]++(Y.drop (t+1)++B)).length:=by rw[←e1,hs];simp;omega
  rw[e1] at hW
  have h1:=hW.td T hl (at_P _ _ _ _).1
  have h2:=hW.td T hl (at_P _ _ _ _).2
  have h3:=hW.exL T hl
  rw[hP] at h1 h2 h3
  exact⟨Y[t],h1,h2,by rw[e2];exact h3⟩)
 have HST:Hid (LowI Y x 0 Y.length):=(show LowI _ _ _ _ from LowI.start Y x)
 have HUP:Hid (∀lo hi k y,LowI Y x lo hi→Y[k]? = some y→ltT y x=true→LowI Y x (k+1) hi):=(show ∀_ _ _ _,_→_→_→LowI _ _ _ _ from fun lo hi k y h1 h2 h3=>h1.up h2 h3)
 have HDN:Hid (∀lo hi k y,LowI Y x lo hi→Y[k]? = some y→ltT y x=false→LowI Y x lo k):=(show ∀_ _ _ _,_→_→_→LowI _ _ _ _ from fun lo hi k y h1 h2 h3=>h1.dn h2 h3)
 have HEND:Hid (∀r W,LowI Y x r r→LW w0 blk off (A++Y.take r ++ [x]++Y.drop r++B) W→MPost w0 blk off A ([x]++Y) B W):=(show ∀_ _,_→_→MPost _ _ _ _ _ _ _ from fun r W h1 h2=>⟨_,(h1.done hY).2,(h1.done hY).1,by simpa using h2⟩)
 have HY:Hid (Y.length=b-m):=(show _=_ from by omega)
 have H0:=Lib.hid S
 have HA:Hid (za=a∧zm=m∧zb=b):=(show _∧_ from ⟨by rw[ha,ea],by rw[hm,em,ea],by rw[hb,eb,em,ea]⟩)
 obtain⟨rfl,rfl,rfl⟩:=HA.out
 have am1:((m:Int)-(a:Int))=1:=by omega
 have ham:a<m:=by omega
 have HM:Hid (m=a+1):=(show _=_ from em)
 have has:a<sz:=by omega
 clear S hs ha hm hb ea em eb hz T HA hY
 have aE:=Tryz.isAgg56
 have zE:=Tryz.sizeOf56
 have mixed:Tryz.prog.follows .mixedOrders=true:=by kernel_rfl
 go_enter Tryz.func169,Tryz.ntmps169
 go_wp2
 clear am1
 go_loopw [10,11] (fun i j wr=>∃(ni nj:Nat),i = .int .i64 ni∧j = .int .i64 nj∧m≤ni∧ni≤nj∧nj≤b∧Hid (LowI Y x (ni-m) (nj-m))∧Hid (LW w0 blk off (A ++ [x]++Y++B) wr)) (fun i j _=>(intOf j).toNat-(intOf i).toNat)
 case atStart=>exact⟨m,b,rfl,rfl,Nat.le_refl _,hmb,Nat.le_refl _,(by rw[Nat.sub_self,←HY.out];exact HST),H0⟩
 case round=>
  clear H0
  obtain⟨ni,nj,rfl,rfl,h1,h2,h3,hI,hW⟩:=hrel
  by_cases c:ni<nj
  ·obtain⟨h,hh⟩:∃h:Nat,h=(ni+nj) / 2:=⟨_,rfl⟩
   have g1:ni≤h:=by omega
   have g2:h<nj:=by omega
   have he:((ni:Int)+(nj:Int)) / 2=(h:Int):=by omega
   obtain⟨y,hy,ty⟩:=(HTC.out wr hW.out).2 h (by omega) (by omega)
   have tx:=(HTC.out wr hW.out).1
   have HYK:=Lib.hid hy
   have hcg:=fun n os=>callT y x (grow (wr.drewN n) os)
   obtain⟨x0,x1,x2,x3⟩:=tx
   obtain⟨y0,y1,y2,y3⟩:=ty
   have HU:=Lib.hid (fun e=>HUP.out (ni-m) (nj-m) (h-m) y hI.out HYK.out e)
   have HD:=Lib.hid (fun e=>HDN.out (ni-m) (nj-m) (h-m) y hI.out HYK.out e)
   have ps:(h:Int)<(sz:Int):=by omega
   have pa:(a:Int)<(sz:Int):=by omega
   have HH:Hid (h=(ni+nj) / 2):=(show _=_ from hh)
   clear hy hh hI
   by_cases hlv:ordT y x<0
   ·have HL:=Lib.hid (HU.out (ltT_t hlv))
    generalize ordT y x=cv at *
    go_upto_region 5 with fail
    clear he
    go_quiet_grown (first|(go_at_call 63;refine Calls.grown_of (hcg _ _)))
    have HG:=Lib.hid (hW.out.grown nq osq)
    clear hcg x0 x1 x2 x3 y0 y1 y2 y3
    generalize grow (wr.drewN nq) osq=w2 at *
    go_wp2
    go_roundw
    case rel=>exact⟨h+1,nj,by go_num,rfl,by omega,by omega,h3,by rw[show h+1-m=h-m+1 from by omega];exact HL,HG⟩
    case measure=>simp[intOf];omega
   ·have HL:=Lib.hid (HD.out (ltT_f hlv))
    generalize ordT y x=cv at *
    go_upto_region 5 with fail
    clear he
    go_quiet_grown (first|(go_at_call 63;refine Calls.grown_of (hcg _ _)))
    have HG:=Lib.hid (hW.out.grown nq osq)
    clear hcg x0 x1 x2 x3 y0 y1 y2 y3
    generalize grow (wr.drewN nq) osq=w2 at *
    go_wp2
    go_roundw
    case rel=>exact⟨ni,h,rfl,rfl,h1,g1,by omega,HL,HG⟩
    case measure=>simp[intOf];omega
  ·obtain rfl:ni=nj:=by omega
   obtain⟨r,hr⟩:∃r,r=ni-m:=⟨_,rfl⟩
   have hrb:r≤b-m:=by omega
   have hW0:LW w0 blk off (A++Y.take 0 ++ [x]++Y.drop 0++B) wr:=by have:=hW.out;simpa using this
   have HW0:=Lib.hid hW0
   have HIr:Hid (LowI Y x r r):=(show LowI _ _ _ _ from by rw[hr];exact hI.out)
   have hra:ni=a+1+r:=by have:=HM.out;omega
   have HRA:=Lib.hid hra
   obtain⟨wq,hwq⟩:∃wq:World,wq=wr:=⟨_,rfl⟩
   rw[←hwq] at HW0 ⊢
   clear hW0 hW hI hr hra hwq HTC HUP HDN HST
   go_wp2
   go_loopw [13] (fun k wr=>∃t:Nat,t≤r∧k = .int .i64 ((a+t:Nat):Int)∧Hid (LW w0 blk off (A++Y.take t ++ [x]++Y.drop t++B) wr)) (fun k _=>(a+r)-(intOf k).toNat)
   case atStart=>exact⟨0,Nat.zero_le _,rfl,HW0⟩
   case round=>
    obtain⟨t,ht,rfl,hL⟩:=hrel
    clear HW0
    by_cases ct:t<r
    ·obtain⟨y,tx,ty,hN2⟩:=HTD.out wr t (by have:=HY.out;omega) hL.out
     obtain⟨x0,x1,x2,x3,f0,f1,f2,f3⟩:=tx
     obtain⟨y0,y1,y2,y3,k0,k1,k2,k3⟩:=ty
     unfold put4 at hN2
     obtain⟨k,hk⟩:∃k,a+t=k:=⟨_,rfl⟩
     rw[hk] at x0 x1 x2 x3 y0 y1 y2 y3 f0 f1 f2 f3 k0 k1 k2 k3 hN2 ⊢
     have HN2:=Lib.hid hN2
     clear hN2 hL HTD
     have hkk:(k:Int)<(ni:Int)-1:=by have:=HRA.out;omega
     have hks:k+1<sz:=by have:=HRA.out;omega
     have e0:((k:Int)+1).toNat=k+1:=by omega
     have p0:(0:Int)≤(k:Int)+1:=by omega
     have p1:(k:Int)+1<(sz:Int):=by omega
     have p2:(k:Int)<(sz:Int):=by omega
     have p3:IntKind.i64.wrap ((k:Int)+1)=(k:Int)+1:=by rw[IntKind.wrap_i64];omega
     have HK:Hid (k=a+t):=(show _=_ from hk.symm)
     clear hk
     go_upto_region 11 with fail
     go_big_region_o
     clear x0 x1 x2 x3 y0 y1 y2 y3 f0 f1 f2 f3 k0 k1 k2 k3
     go_wp2
     go_roundw
     case rel=>exact⟨t+1,by omega,by rw[HK.out];go_num,HN2⟩
     case measure=>simp[intOf];have:=HK.out;omega
    ·obtain rfl:t=r:=by omega
     have hkk:¬((a+t:Nat):Int)<(ni:Int)-1:=by have:=HRA.out;omega
     go_wp2
     refine bodyPost_ret (results_none rfl _ _ _) rfl ?_
     exact⟨rfl,HEND.out t wr HIr.out hL.out⟩
theorem idxR (A X B:List Tsk) (y:Tsk):(A++X ++ [y]++B)[A.length+X.length]? = some y∧∀k,k<X.length→∃x,X[k]? = some x∧(A++X ++ [y]++B)[A.length+k]? = some x:=by
 refine⟨?_,fun k hk=>⟨X[k],List.getElem?_eq_getElem hk,?_⟩⟩
 ·rw[List.append_assoc,List.getElem?_append_right (by simp)];simp
 ·rw[List.append_assoc,List.append_assoc,List.getElem?_append_right (by omega),show A.length+k-A.length=k from by omega,List.getElem?_append_left hk,List.getElem?_eq_getElem hk]
set_option maxHeartbeats 8000000 in
set_option maxRecDepth 1000000 in
theorem mergeR_any {w0:World} {blk off:Nat} {d0:Array Tsk} (T:TRow w0 blk off d0) (cap sz:Nat) (hz:sz=d0.size) (A X B:List Tsk) (y:Tsk) (w:World) (za zm zb:Int) (S:LW w0 blk off (A++X ++ [y]++B) w) (hs:d0.size=(A++X ++ [y]++B).length) (hX:Srt ltT X) (hx2:2≤X.length)
  (ha:za=(A.length:Nat)) (hm:zm=((A.length+X.length:Nat):Int)) (hb:zb=((A.length+X.length+1:Nat):Int)) :
  Calls Tryz.prog 169 #[.slice (some ⟨blk,off,none⟩) sz cap,.int .i64 za,.int .i64 zm,.int .i64 zb,.func (.func 63) #[] #[]] w fun e w'=>e = .returned (.tuple #[])∧MPost w0 blk off A (X ++ [y]) B w':=by
 obtain⟨a,ea⟩:∃a,a=A.length:=⟨_,rfl⟩
 obtain⟨m,em⟩:∃m,m=a+X.length:=⟨_,rfl⟩
 obtain⟨b,eb⟩:∃b,b=m+1:=⟨_,rfl⟩
 have hN:sz<4611686018427387904:=by rw[hz];exact T.sz
 have hbs:b≤sz:=by rw[hz,hs,eb,em,ea];simp;omega
 have ham:a+2≤m:=by omega
 have HTC:Hid (∀W,LW w0 blk off (A++X ++ [y]++B) W→TC W blk (off+m*4) y∧∀h,a≤h→h<m→∃x,X[h-a]? = some x∧TC W blk (off+h*4) x):=(show ∀W,_→_ from fun W hW=>⟨by rw[em,ea];exact hW.tc T hs (idxR A X B y).1,fun h h1 h2=>by
  obtain⟨x,g1,g2⟩:=(idxR A X B y).2 (h-a) (by omega)
  rw[show A.length+(h-a)=h from by omega] at g2
  exact⟨x,g1,hW.tc T hs g2⟩⟩)
 have HTD:Hid (∀W q,q<X.length→LW w0 blk off (A++X.take (q+1) ++ [y]++X.drop (q+1)++B) W→∃x,TD W blk (off+(a+q)*4) x∧TD W blk (off+(a+q+1)*4) y∧LW w0 blk off (A++X.take q ++ [y]++X.drop q++B) (put4 (put4 W blk (off+(a+q+1)*4) x) blk (off+(a+q)*4) y).drew):=(show ∀W q,_→_→_ from fun W q hq hW=>by
  have hP:(A++X.take q).length=a+q:=by simp;omega
  have e1:A++X.take (q+1) ++ [y]++X.drop (q+1)++B=(A++X.take q) ++ [X[q]] ++ [y]++(X.drop (q+1)++B):=by rw[List.take_succ_eq_append_getElem hq];simp only[List.append_assoc,List.cons_append,List.nil_append]
  have e2:A++X.take q ++ [y]++X.drop q++B=(A++X.take q) ++ [y] ++ [X[q]]++(X.drop (q+1)++B):=by rw[List.drop_eq_getElem_cons hq];simp only[List.append_assoc,List.cons_append,List.nil_append]
  have hl:d0.size=((A++X.take q) ++ [X[q]] ++ [y]++(X.drop (q+1)++B)).length:=by rw[←e1,hs];simp;omega
  rw[e1] at hW
  have h1:=hW.td T hl (at_P _ _ _ _).1
  have h2:=hW.td T hl (at_P _ _ _ _).2
  have h3:=hW.exR T hl
  rw[hP] at h1 h2 h3
  exact⟨X[q],h1,h2,by rw[e2];exact h3⟩)
 have HST:Hid (HighI X y 0 X.length):=(show HighI _ _ _ _ from HighI.start X y)
 have HUP:Hid (∀lo hi k x,HighI X y lo hi→X[k]? = some x→ltT y x=false→HighI X y (k+1) hi):=(show ∀_ _ _ _,_→_→_→HighI _ _ _ _ from fun lo hi k x h1 h2 h3=>h1.up h2 h3)
 have HDN:Hid (∀lo hi k x,HighI X y lo hi→X[k]? = some x→ltT y x=true→HighI X y lo k):=(show ∀_ _ _ _,_→_→_→HighI _ _ _ _ from fun lo hi k x h1 h2 h3=>h1.dn h2 h3)
 have HEND:Hid (∀r W,HighI X y r r→LW w0 blk off (A++X.take r ++ [y]++X.drop r++B) W→MPost w0 blk off A (X ++ [y]) B W):=(show ∀_ _,_→_→MPost _ _ _ _ _ _ _ from fun r W h1 h2=>⟨_,(h1.done hX).2,(h1.done hX).1,by simpa using h2⟩)
 have HX:Hid (X.length=m-a):=(show _=_ from by omega)
 have H0:=Lib.hid S
 have HA:Hid (za=a∧zm=m∧zb=b):=(show _∧_ from ⟨by rw[ha,ea],by rw[hm,em,ea],by rw[hb,eb,em,ea]⟩)
 obtain⟨rfl,rfl,rfl⟩:=HA.out
 have am1:(((m:Int)-(a:Int)) == 1)=false:=by simp;omega
 have bm1:((b:Int)-(m:Int))=1:=by omega
 have hms:m<sz:=by omega
 have hmb:m<b:=by omega
 clear S hs ha hm hb ea em eb hz T HA hX hx2
 have aE:=Tryz.isAgg56
 have zE:=Tryz.sizeOf56
 have mixed:Tryz.prog.follows .mixedOrders=true:=by kernel_rfl
 go_enter Tryz.func169,Tryz.ntmps169
 go_wp2
 clear am1 bm1
 go_loopw [14,15] (fun i j wr=>∃(ni nj:Nat),i = .int .i64 ni∧j = .int .i64 nj∧a≤ni∧ni≤nj∧nj≤m∧Hid (HighI X y (ni-a) (nj-a))∧Hid (LW w0 blk off (A++X ++ [y]++B) wr)) (fun i j _=>(intOf j).toNat-(intOf i).toNat)
 case atStart=>exact⟨a,m,rfl,rfl,Nat.le_refl _,by omega,Nat.le_refl _,(by rw[Nat.sub_self,←HX.out];exact HST),H0⟩
 case round=>
  clear H0
  obtain⟨ni,nj,rfl,rfl,h1,h2,h3,hI,hW⟩:=hrel
  by_cases c:ni<nj
  ·obtain⟨h,hh⟩:∃h:Nat,h=(ni+nj) / 2:=⟨_,rfl⟩
   have g1:ni≤h:=by omega
   have g2:h<nj:=by omega
   have he:((ni:Int)+(nj:Int)) / 2=(h:Int):=by omega
   obtain⟨x,hx,tx⟩:=(HTC.out wr hW.out).2 h (by omega) (by omega)
   have ty:=(HTC.out wr hW.out).1
   have HXK:=Lib.hid hx
   have hcg:=fun n os=>callT y x (grow (wr.drewN n) os)
   obtain⟨x0,x1,x2,x3⟩:=tx
   obtain⟨y0,y1,y2,y3⟩:=ty
   have HU:=Lib.hid (fun e=>HUP.out (ni-a) (nj-a) (h-a) x hI.out HXK.out e)
   have HD:=Lib.hid (fun e=>HDN.out (ni-a) (nj-a) (h-a) x hI.out HXK.out e)
   have ps:(h:Int)<(sz:Int):=by omega
   have pa:(m:Int)<(sz:Int):=by omega
   clear hx hh hI
   by_cases hlv:ordT y x<0
   ·have HL:=Lib.hid (HD.out (ltT_t hlv))
    generalize ordT y x=cv at *
    go_upto_region 17 with fail
    clear he
    go_quiet_grown (first|(go_at_call 63;refine Calls.grown_of (hcg _ _)))
    have HG:=Lib.hid (hW.out.grown nq osq)
    clear hcg x0 x1 x2 x3 y0 y1 y2 y3
    generalize grow (wr.drewN nq) osq=w2 at *
    go_wp2
    go_roundw
    case rel=>exact⟨ni,h,rfl,rfl,h1,g1,by omega,HL,HG⟩
    case measure=>simp[intOf];omega
   ·have HL:=Lib.hid (HU.out (ltT_f hlv))
    generalize ordT y x=cv at *
    go_upto_region 17 with fail
    clear he
    go_quiet_grown (first|(go_at_call 63;refine Calls.grown_of (hcg _ _)))
    have HG:=Lib.hid (hW.out.grown nq osq)
    clear hcg x0 x1 x2 x3 y0 y1 y2 y3
    generalize grow (wr.drewN nq) osq=w2 at *
    go_wp2
    go_roundw
    case rel=>exact⟨h+1,nj,by go_num,rfl,by omega,by omega,h3,by rw[show h+1-a=h-a+1 from by omega];exact HL,HG⟩
    case measure=>simp[intOf];omega
  ·obtain rfl:ni=nj:=by omega
   obtain⟨r,hr⟩:∃r,r=ni-a:=⟨_,rfl⟩
   have hW0:LW w0 blk off (A++X.take X.length ++ [y]++X.drop X.length++B) wr:=by have:=hW.out;simpa using this
   rw[HX.out] at hW0
   have HW0:=Lib.hid hW0
   have HIr:Hid (HighI X y r r):=(show HighI _ _ _ _ from by rw[hr];exact hI.out)
   have hra:ni=a+r:=by omega
   have HRA:=Lib.hid hra
   have hrm:r≤m-a:=by omega
   obtain⟨wq,hwq⟩:∃wq:World,wq=wr:=⟨_,rfl⟩
   rw[←hwq] at HW0 ⊢
   clear hW0 hW hI hr hra hwq HTC HUP HDN HST
   go_wp2
   go_loopw [17] (fun s wr=>∃k:Nat,ni≤k∧k≤m∧s = .int .i64 k∧Hid (LW w0 blk off (A++X.take (k-a) ++ [y]++X.drop (k-a)++B) wr)) (fun s _=>(intOf s).toNat-ni)
   case atStart=>exact⟨m,by omega,Nat.le_refl _,rfl,HW0⟩
   case round=>
    obtain⟨k,hk1,hk2,rfl,hL⟩:=hrel
    clear HW0
    by_cases ct:ni<k
    ·obtain⟨kp,rfl⟩:∃kp,k=kp+1:=⟨k-1,by omega⟩
     have hkp:kp+1-a=(kp-a)+1:=by omega
     obtain⟨x,tx,ty,hN2⟩:=HTD.out wr (kp-a) (by have:=HX.out;omega) (by have:=hL.out;rw[hkp] at this;exact this)
     rw[show a+(kp-a)=kp from by omega] at tx ty hN2
     obtain⟨x0,x1,x2,x3,f0,f1,f2,f3⟩:=tx
     obtain⟨y0,y1,y2,y3,k0,k1,k2,k3⟩:=ty
     unfold put4 at hN2
     have HN2:=Lib.hid hN2
     clear hN2 hL HTD hkp
     have hkk:(ni:Int)<(kp:Int)+1:=by omega
     have e0:((kp:Int)+1).toNat=kp+1:=by omega
     have p0:(0:Int)≤(kp:Int)+1:=by omega
     have p1:(kp:Int)+1<(sz:Int):=by omega
     have p2:(kp:Int)<(sz:Int):=by omega
     have p3:IntKind.i64.wrap (kp:Int)=(kp:Int):=by rw[IntKind.wrap_i64];omega
     go_upto_region 23 with fail
     go_big_region_o
     clear x0 x1 x2 x3 y0 y1 y2 y3 f0 f1 f2 f3 k0 k1 k2 k3
     go_wp2
     go_roundw
     case rel=>exact⟨kp,by omega,by omega,by first|rfl|go_num|(congr 1;omega),HN2⟩
     case measure=>simp[intOf];omega
    ·obtain rfl:ni=k:=by omega
     go_wp2
     refine bodyPost_ret (results_none rfl _ _ _) rfl ?_
     exact⟨rfl,HEND.out r wr HIr.out (by have:=hL.out;rw[show ni-a=r from by have:=HRA.out;omega] at this;exact this)⟩
theorem get_last {α:Type} (A X R:List α) (x:α) (h:X.getLast? = some x):(A++X++R)[A.length+X.length-1]? = some x∧0<X.length:=by
 obtain⟨Y,rfl⟩:=List.getLast?_eq_some_iff.1 h
 refine⟨?_,by simp⟩
 rw[List.append_assoc,List.getElem?_append_right (by simp)]
 simp
theorem get_head {α:Type} (A X R:List α) (x:α) (h:X.head? = some x):(A++X++R)[A.length]? = some x∧0<X.length:=by
 cases X with
 | nil=>simp at h
 | cons a r=>
  simp only[List.head?_cons,Option.some.injEq] at h
  subst h
  exact⟨by simp,by simp⟩
structure MidG (A X1 X2 Y1 Y2 B:List Tsk) (a m b mid lo hi s:Nat):Prop where
 ga:A.length=a
 gm:a+X1.length+X2.length=m
 gb:m+Y1.length+Y2.length=b
 gd:mid=(a+b) / 2
 bnd:(mid<m∧lo=mid+m-b∧hi=mid)∨(m≤mid∧lo=a∧hi=m)
 gs:a+X1.length=s
 g1:lo≤s
 g2:s≤hi
theorem mid_halves {A X1 X2 Y1 Y2 B l:List Tsk} {a m b mid lo hi s:Nat} (g:MidG A X1 X2 Y1 Y2 B a m b mid lo hi s) (hl:l=A++X1++X2++Y1++Y2++B) (hy:mid=s+Y1.length) (h:MidI l (mid+m-1) lo hi s s) (hX:Srt ltT (X1++X2)) (hY:Srt ltT (Y1++Y2)) :
  ∀u∈X1++Y1,∀v∈X2++Y2,ltT v u=false:=by
 obtain⟨g1,g2,g3,g4,g5,g6,g7,g8⟩:=g
 refine halves linT hX hY (fun x y hx hy2=>?_) (fun y x hy2 hx=>?_)
 ·have h1:=get_last A X1 (X2++Y1++Y2++B) x hx
  have h2:=get_head (A++X1++X2++Y1) Y2 B y hy2
  have e1:A++X1++(X2++Y1++Y2++B)=l:=by rw[hl];simp
  have e2:A++X1++X2++Y1++Y2++B=l:=hl.symm
  rw[e1,g1,g6] at h1
  rw[e2] at h2
  simp only[List.length_append] at h2
  rw[g1,g2] at h2
  rcases h.p1 with c|⟨u,v,hu,hv,hlt,_⟩
  ·exfalso
   have:=h1.2
   have:=h2.2
   omega
  ·rw[h1.1] at hu
   rw[show mid+m-1-(s-1)=m+Y1.length from by have:=h1.2;omega,h2.1] at hv
   cases hu;cases hv
   exact hlt
 ·have h1:=get_last (A++X1++X2) Y1 (Y2++B) y hy2
  have h2:=get_head (A++X1) X2 (Y1++Y2++B) x hx
  have e1:A++X1++X2++Y1++(Y2++B)=l:=by rw[hl];simp
  have e2:A++X1++X2++(Y1++Y2++B)=l:=by rw[hl];simp
  rw[e1] at h1
  rw[e2] at h2
  simp only[List.length_append] at h1 h2
  rw[g1,g2] at h1
  rw[g1,g6] at h2
  rcases h.p2 with c|⟨u,v,hu,hv,hlt,_⟩
  ·exfalso
   have:=h1.2
   have:=h2.2
   omega
  ·rw[h2.1] at hu
   rw[show mid+m-1-s=m+Y1.length-1 from by omega,h1.1] at hv
   cases hu;cases hv
   exact linT.tot _ _ hlt
theorem srt_l {X Y:List Tsk} (h:Srt ltT (X++Y)):Srt ltT X:=(List.pairwise_append.1 h).1
theorem srt_r {X Y:List Tsk} (h:Srt ltT (X++Y)):Srt ltT Y:=(List.pairwise_append.1 h).2.1
theorem srt_one {X Y:List Tsk} (h:X = []∨Y = []) (hX:Srt ltT X) (hY:Srt ltT Y):Srt ltT (X++Y):=by
 rcases h with rfl|rfl
 ·simpa using hY
 ·simpa using hX
theorem MidI.up {l:List Tsk} {p lo hi s r c:Nat} {u v:Tsk} (h:MidI l p lo hi s r) (h1:l[c]? = some u) (h2:l[p-c]? = some v) (hl:ltT v u=false) (hc:lo≤c):MidI l p lo hi (c+1) r:=
 ⟨Or.inr ⟨u,v,by simpa using h1,by simpa using h2,hl,by omega⟩,h.p2⟩
theorem MidI.dn {l:List Tsk} {p lo hi s r c:Nat} {u v:Tsk} (h:MidI l p lo hi s r) (h1:l[c]? = some u) (h2:l[p-c]? = some v) (hl:ltT v u=true) (hc:c<hi):MidI l p lo hi s c:=
 ⟨h.p1,Or.inr ⟨u,v,h1,h2,hl,hc⟩⟩
def Merges (w0:World) (blk off cap sz n:Nat):Prop:=∀(A X Y B:List Tsk) (w:World) (za zm zb:Int),X.length+Y.length<n→LW w0 blk off (A++X++Y++B) w→sz=(A++X++Y++B).length→0<X.length→0<Y.length→Srt ltT X→Srt ltT Y→za=(A.length:Nat)→zm=((A.length+X.length:Nat):Int)→zb=((A.length+X.length+Y.length:Nat):Int)→
 Calls Tryz.prog 169 #[.slice (some ⟨blk,off,none⟩) sz cap,.int .i64 za,.int .i64 zm,.int .i64 zb,.func (.func 63) #[] #[]] w fun e w'=>e = .returned (.tuple #[])∧MPost w0 blk off A (X++Y) B w'
section
variable {w0 : World} {blk off : Nat} {d0 : Array Tsk} {A X1 X2 Y1 Y2 B : List Tsk}
structure Tail (w0:World) (blk off cap sz:Nat) (A X1 X2 Y1 Y2 B:List Tsk) (a s m mid e b:Nat):Prop where
 rot:∀W,s<m→m<e→LW w0 blk off (A++X1++X2++Y1++Y2++B) W→Calls Tryz.prog 190 #[.slice (some ⟨blk,off,none⟩) sz cap,.int .i64 s,.int .i64 m,.int .i64 e,.func (.func 63) #[] #[]] W fun e w'=>e = .returned (.tuple #[])∧LW w0 blk off (A++X1++Y1++X2++Y2++B) w'
 nrot:∀W,¬(s<m∧m<e)→LW w0 blk off (A++X1++X2++Y1++Y2++B) W→LW w0 blk off (A++X1++Y1++X2++Y2++B) W
 lo:∀W,a<s→s<mid→LW w0 blk off (A++X1++Y1++X2++Y2++B) W→Calls Tryz.prog 169 #[.slice (some ⟨blk,off,none⟩) sz cap,.int .i64 a,.int .i64 s,.int .i64 mid,.func (.func 63) #[] #[]] W fun e w'=>e = .returned (.tuple #[])∧MPost w0 blk off A (X1++Y1) (X2++Y2++B) w'
 nlo:∀W,¬(a<s∧s<mid)→LW w0 blk off (A++X1++Y1++X2++Y2++B) W→MPost w0 blk off A (X1++Y1) (X2++Y2++B) W
 hi:∀W,mid<e→e<b→MPost w0 blk off A (X1++Y1) (X2++Y2++B) W→Calls Tryz.prog 169 #[.slice (some ⟨blk,off,none⟩) sz cap,.int .i64 mid,.int .i64 e,.int .i64 b,.func (.func 63) #[] #[]] W fun e w'=>e = .returned (.tuple #[])∧MPost w0 blk off A ((X1++X2)++(Y1++Y2)) B w'
 nhi:∀W,¬(mid<e∧e<b)→MPost w0 blk off A (X1++Y1) (X2++Y2++B) W→MPost w0 blk off A ((X1++X2)++(Y1++Y2)) B W
theorem tail_of (T:TRow w0 blk off d0) (cap sz n:Nat) (hz:sz=d0.size) (IH:Merges w0 blk off cap sz n) {a s m mid e b:Nat} (hs:sz=(A++X1++X2++Y1++Y2++B).length) (ha:A.length=a) (h1:a+X1.length=s) (h2:s+X2.length=m) (h3:m+Y1.length=e) (h4:e+Y2.length=b) (h5:s+Y1.length=mid)
  (hx:2≤X1.length+X2.length) (hy:2≤Y1.length+Y2.length) (hn:X1.length+X2.length+Y1.length+Y2.length=n) (hm:mid=(a+b) / 2) (hX:Srt ltT (X1++X2)) (hY:Srt ltT (Y1++Y2)) (hh:∀u∈X1++Y1,∀v∈X2++Y2,ltT v u=false):Tail w0 blk off cap sz A X1 X2 Y1 Y2 B a s m mid e b:=by
 have hs':sz=A.length+X1.length+X2.length+Y1.length+Y2.length+B.length:=by rw[hs];simp;omega
 have nil:∀{l:List Tsk},l.length=0→l = []:=fun h=>List.eq_nil_of_length_eq_zero h
 refine⟨fun W c1 c2 hW=>?_,fun W c hW=>?_,fun W c1 c2 hW=>?_,fun W c hW=>?_,fun W c1 c2 hW=>?_,fun W c hW=>?_⟩
 ·have:=rotate_any T (.func (.func 63) #[] #[]) cap sz hz (A++X1) X2 Y1 (Y2++B) W s m e (by simpa using hW) (by rw[←hz,hs];simp) (by omega) (by omega) (by simp;omega) (by simp;omega) (by simp;omega)
  refine this.mono ?_
  rintro e w' ⟨r1,r2⟩
  exact⟨r1,by simpa using r2⟩
 ·have:X2 = []∨Y1 = []:=by
   by_cases c1:s<m
   ·exact Or.inr (nil (by omega))
   ·exact Or.inl (nil (by omega))
  rcases this with rfl|rfl <;> simpa using hW
 ·exact IH A X1 Y1 (X2++Y2++B) W a s mid (by omega) (by simpa using hW) (by rw[hs'];simp;omega) (by omega) (by omega) (srt_l hX) (srt_l hY) (by omega) (by omega) (by omega)
 ·have:X1 = []∨Y1 = []:=by
   by_cases c1:a<s
   ·exact Or.inr (nil (by omega))
   ·exact Or.inl (nil (by omega))
  exact⟨X1++Y1,List.Perm.refl _,srt_one this (srt_l hX) (srt_l hY),by simpa using hW⟩
 ·obtain⟨Z1,p1,s1,w1⟩:=hW
  have hl:=p1.length_eq
  rw[List.length_append] at hl
  have:=IH (A++Z1) X2 Y2 B W mid e b (by omega) (by simpa using w1) (by rw[hs'];simp;omega) (by omega) (by omega) (srt_r hX) (srt_r hY) (by simp;omega) (by simp;omega) (by simp;omega)
  refine this.mono ?_
  rintro e w' ⟨r1,Z2,p2,s2,w2⟩
  obtain⟨g1,g2⟩:=glue hh s1 s2 p1 p2
  exact⟨r1,Z1++Z2,g2,g1,by simpa using w2⟩
 ·obtain⟨Z1,p1,s1,w1⟩:=hW
  have:X2 = []∨Y2 = []:=by
   by_cases c1:mid<e
   ·exact Or.inr (nil (by omega))
   ·exact Or.inl (nil (by omega))
  obtain⟨g1,g2⟩:=glue hh s1 (srt_one this (srt_r hX) (srt_r hY)) p1 (List.Perm.refl _)
  exact⟨Z1++(X2++Y2),g2,g1,by simpa using w1⟩
end
end Go.Proofs.YtjfelfjobeeenaaGreat
