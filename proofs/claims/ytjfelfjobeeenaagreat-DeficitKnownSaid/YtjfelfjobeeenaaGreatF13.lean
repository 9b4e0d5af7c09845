/- slices.symMergeCmpFunc at tasks: the great walk. Conditions: two sorted rows; it merges fewer rightly. DERIVED: THE SHELF's CONTRACTS AT THIS DUMP, IN PLAIN WORDS (tools/lay-plain.mjs out of 'YtjfelfjobeeenaaGreatLayTX.lean', which tools/lay-shelf.mjs wrote): THE SAME DECLARATIONS UNDER THE SAME NAMES: 'import', 'namespace', 'open', 'def', 'theorem' AND NOTHING ELSE: no command of the shelf's: FOR A HAND-IN. Each laying: the table of numbers ('.._ren') and one theorem, a field a fact of the dump's own or the kernel's comparison; each contract: ONE APPLICATION. slices.symMergeCmpFunc at tasks. Conditions: two sorted rows, neither empty. slices.stableCmpFunc, slices.SortStableFunc at tasks: walked. Conditions: the row lies in memory. slices.SortStableFunc at tasks, over a row of the caller's own. Conditions: the row lies in memory. -/
import Derived.Test.YtjfelfjobeeenaaGreatF12
import Derived.Outline
import Derived.Shelf.SlLaysF0
import Derived.Ground.SlsfProg
import Derived.Shelf.SlGeneric
import Derived.Test.YtjfelfjobeeenaaGreatProg
import Derived.Shelf.SlSortCmp.NoneTotal
set_option linter.unusedSimpArgs false
set_option linter.unusedVariables false
namespace Go.Proofs.YtjfelfjobeeenaaGreat
open Go.RowKit Go.Sf Go.Shelf Go.Sort Go.Lib
theorem idxM {A X Y B:List Tsk} {i:Nat} (h:i<(A++X++Y++B).length):∃u,(A++X++Y++B)[i]? = some u:=⟨_,List.getElem?_eq_getElem h⟩
set_option maxHeartbeats 16000000 in
set_option maxRecDepth 1000000 in
theorem mergeG_any {w0:World} {blk off:Nat} {d0:Array Tsk} (T:TRow w0 blk off d0) (cap sz n0:Nat) (hz:sz=d0.size) (IH:Merges w0 blk off cap sz n0) (A X Y B:List Tsk) (w:World) (za zm zb:Int) (S:LW w0 blk off (A++X++Y++B) w) (hs:sz=(A++X++Y++B).length) (hn0:X.length+Y.length=n0)
  (hX:Srt ltT X) (hY:Srt ltT Y) (hx2:2≤X.length) (hy2:2≤Y.length) (ha:za=(A.length:Nat)) (hm:zm=((A.length+X.length:Nat):Int)) (hb:zb=((A.length+X.length+Y.length:Nat):Int)) :
  Calls Tryz.prog 169 #[.slice (some ⟨blk,off,none⟩) sz cap,.int .i64 za,.int .i64 zm,.int .i64 zb,.func (.func 63) #[] #[]] w fun e w'=>e = .returned (.tuple #[])∧MPost w0 blk off A (X++Y) B w':=by
 obtain⟨a,ea⟩:∃a,a=A.length:=⟨_,rfl⟩
 obtain⟨m,em⟩:∃m,m=a+X.length:=⟨_,rfl⟩
 obtain⟨b,eb⟩:∃b,b=m+Y.length:=⟨_,rfl⟩
 obtain⟨l,hl⟩:∃l,l=A++X++Y++B:=⟨_,rfl⟩
 obtain⟨mid,emid⟩:∃x,x=(a+b) / 2:=⟨_,rfl⟩
 obtain⟨nn,enn⟩:∃x,x=mid+m:=⟨_,rfl⟩
 obtain⟨p,ep⟩:∃x,x=nn-1:=⟨_,rfl⟩
 have hN:sz<4611686018427387904:=by rw[hz];exact T.sz
 have hbs:b≤sz:=by rw[hs,eb,em,ea];simp;omega
 have ham:a+2≤m:=by omega
 have hmb:m+2≤b:=by omega
 rw[←hl] at S
 have HTC:Hid (∀W h,h<b→LW w0 blk off l W→∃u,l[h]? = some u∧TC W blk (off+h*4) u):=(show ∀W h,_→_→_ from fun W h h1 hW=>by
  rw[hl] at hW ⊢
  obtain⟨u,hu⟩:=idxM (A:=A) (X:=X) (Y:=Y) (B:=B) (i:=h) (by rw[←hs];omega)
  exact⟨u,hu,hW.tc T (by rw[←hz];exact hs) hu⟩)
 obtain⟨lo,hi,hbnd⟩:∃lo hi:Nat,(mid<m∧lo=mid+m-b∧hi=mid)∨(m≤mid∧lo=a∧hi=m):=by
  by_cases c:mid<m
  ·exact⟨_,_,Or.inl ⟨c,rfl,rfl⟩⟩
  ·exact⟨_,_,Or.inr ⟨by omega,rfl,rfl⟩⟩
 have HTAIL:Hid (∀s W,lo≤s→s≤hi→MidI l p lo hi s s→LW w0 blk off l W→∃X1 X2 Y1 Y2,Tail w0 blk off cap sz A X1 X2 Y1 Y2 B a s m mid (nn-s) b∧X1++X2=X∧Y1++Y2=Y∧LW w0 blk off (A++X1++X2++Y1++Y2++B) W):=(show ∀s W,_→_→_→_→_ from fun s W g1 g2 hM hW=>by
  obtain⟨X1,X2,hX12,hx1⟩:=split_at X (s-a) (by omega)
  obtain⟨Y1,Y2,hY12,hy1⟩:=split_at Y (mid-s) (by omega)
  have lx:X1.length+X2.length=X.length:=by rw[hX12];simp
  have ly:Y1.length+Y2.length=Y.length:=by rw[hY12];simp
  have hl':l=A++X1++X2++Y1++Y2++B:=by rw[hl,hX12,hY12];simp
  have g:MidG A X1 X2 Y1 Y2 B a m b mid lo hi s:=⟨ea.symm,by omega,by omega,emid,hbnd,by omega,g1,g2⟩
  have hh:=mid_halves g hl' (by omega) (by rw[ep,enn] at hM;exact hM) (by rw[←hX12];exact hX) (by rw[←hY12];exact hY)
  refine⟨X1,X2,Y1,Y2,tail_of T cap sz n0 hz IH (by rw[←hl',hl];exact hs) ea.symm (by omega) (by omega) (by omega) (by omega) (by omega) (by omega) (by omega) (by omega) emid (by rw[←hX12];exact hX) (by rw[←hY12];exact hY) hh,hX12.symm,hY12.symm,by rw[←hl'];exact hW⟩)
 have HST:Hid (MidI l p lo hi lo hi):=(show MidI _ _ _ _ _ _ from ⟨Or.inl rfl,Or.inl rfl⟩)
 have HUP:Hid (∀s r c u v,MidI l p lo hi s r→l[c]? = some u→l[p-c]? = some v→lo≤c→ltT v u=false→MidI l p lo hi (c+1) r):=(show ∀_ _ _ _ _,_→_→_→_→_→MidI _ _ _ _ _ _ from fun s r c u v h h1 h2 h3 h4=>h.up h1 h2 h4 h3)
 have HDN:Hid (∀s r c u v,MidI l p lo hi s r→l[c]? = some u→l[p-c]? = some v→c<hi→ltT v u=true→MidI l p lo hi s c):=(show ∀_ _ _ _ _,_→_→_→_→_→MidI _ _ _ _ _ _ from fun s r c u v h h1 h2 h3 h4=>h.dn h1 h2 h4 h3)
 have H0:=Lib.hid S
 have HA:Hid (za=a∧zm=m∧zb=b):=(show _∧_ from ⟨by rw[ha,ea],by rw[hm,em,ea],by rw[hb,eb,em,ea]⟩)
 obtain⟨rfl,rfl,rfl⟩:=HA.out
 have am1:(((m:Int)-(a:Int)) == 1)=false:=by simp;omega
 have bm1:(((b:Int)-(m:Int)) == 1)=false:=by simp;omega
 have q1:((a:Int)+(b:Int)) / 2=(mid:Int):=by omega
 have q2:(mid:Int)+(m:Int)=(nn:Int):=by omega
 have q3:(nn:Int)-1=(p:Int):=by omega
 have b1:a≤lo:=by omega
 have b2:lo≤hi:=by omega
 have b3:hi≤m:=by omega
 have b4:hi≤mid:=by omega
 have b5:nn≤lo+b:=by omega
 have b6:p+1=nn:=by omega
 have b7:nn=mid+m:=enn
 have B6:=Lib.hid b6
 have B7:=Lib.hid b7
 have b8:nn<9223372036854775807:=by omega
 have b9:hi≤nn:=by omega
 have c1:mid<b:=by omega
 clear S hs ha hm hb ea em eb hz T HA hX hY hx2 hy2 IH hl emid enn ep hn0 b6 b7
 have aE:=Tryz.isAgg56
 have zE:=Tryz.sizeOf56
 have mixed:Tryz.prog.follows .mixedOrders=true:=by kernel_rfl
 go_enter Tryz.func169,Tryz.ntmps169
 go_upto_if 140 with fail
 go_cut [20,21] from 138 to 146 (fun s r wx=>s = .int .i64 lo∧r = .int .i64 hi∧wx=w)
 case first=>
  rcases hbnd with ⟨c,e1,e2⟩|⟨c,e1,e2⟩
  ·have q4:(nn:Int)-(b:Int)=(lo:Int):=by have:=B7.out;omega
   have HE:=Lib.hid e2
   clear e1 e2
   go_wp2
   go_meet
   exact⟨rfl,by rw[HE.out],rfl⟩
  ·have HE:=Lib.hid e1
   have HE2:=Lib.hid e2
   clear e1 e2
   go_wp2
   go_meet
   exact⟨by rw[HE.out],by rw[HE2.out],rfl⟩
 case rest=>
  clear hbnd
  obtain⟨rfl,rfl,rfl⟩:=hcut
  go_wp2
  clear am1 bm1 q1 q2 q3
  go_loopw [20,21] (fun i j wr=>∃(s r:Nat),i = .int .i64 s∧j = .int .i64 r∧lo≤s∧s≤r∧r≤hi∧Hid (MidI l p lo hi s r)∧Hid (LW w0 blk off l wr)) (fun i j _=>(intOf j).toNat-(intOf i).toNat)
  case atStart=>exact⟨lo,hi,rfl,rfl,Nat.le_refl _,b2,Nat.le_refl _,HST,H0⟩
  case round=>
   clear H0
   obtain⟨s,r,rfl,rfl,h1,h2,h3,hI,hW⟩:=hrel
   by_cases c:s<r
   ·obtain⟨h,hh⟩:∃h:Nat,h=(s+r) / 2:=⟨_,rfl⟩
    have g1:s≤h:=by omega
    have g2:h<r:=by omega
    have he:((s:Int)+(r:Int)) / 2=(h:Int):=by omega
    obtain⟨q,hq⟩:∃q:Nat,q=p-h:=⟨_,rfl⟩
    have hqp:h≤p:=by have:=B6.out;have:=B7.out;omega
    have hqb:q<b:=by have:=B6.out;omega
    obtain⟨x,hx,tx⟩:=HTC.out wr h (by omega) hW.out
    obtain⟨y,hy,ty⟩:=HTC.out wr q hqb hW.out
    have HXK:=Lib.hid hx
    have hy2:l[p-h]? = some y:=by rw[←hq];exact hy
    have HYK:=Lib.hid hy2
    have hcg:=fun n os=>callT y x (grow (wr.drewN n) os)
    obtain⟨x0,x1,x2,x3⟩:=tx
    obtain⟨y0,y1,y2,y3⟩:=ty
    have HU:=Lib.hid (fun e=>HUP.out s r h x y hI.out HXK.out HYK.out (by omega) e)
    have HD:=Lib.hid (fun e=>HDN.out s r h x y hI.out HXK.out HYK.out (by omega) e)
    have ps:(h:Int)<(sz:Int):=by omega
    have pa:(q:Int)<(sz:Int):=by omega
    have he2:IntKind.i64.wrap ((p:Int)-(h:Int))=(q:Int):=by rw[show(p:Int)-(h:Int)=(q:Int) from by omega,IntKind.wrap_i64];omega
    clear hx hy hy2 hh hq hI
    by_cases hlv:ordT y x<0
    ·have HL:=Lib.hid (HD.out (ltT_t hlv))
     generalize ordT y x=cv at *
     go_upto_region 35 with fail
     clear he
     go_quiet_grown (first|(go_at_call 63;refine Calls.grown_of (hcg _ _)))
     have HG:=Lib.hid (hW.out.grown nq osq)
     clear hcg x0 x1 x2 x3 y0 y1 y2 y3 he2
     generalize grow (wr.drewN nq) osq=w2 at *
     go_wp2
     go_roundw
     case rel=>exact⟨s,h,rfl,rfl,h1,g1,by omega,HL,HG⟩
     case measure=>simp[intOf];omega
    ·have HL:=Lib.hid (HU.out (ltT_f hlv))
     generalize ordT y x=cv at *
     go_upto_region 35 with fail
     clear he
     go_quiet_grown (first|(go_at_call 63;refine Calls.grown_of (hcg _ _)))
     have HG:=Lib.hid (hW.out.grown nq osq)
     clear hcg x0 x1 x2 x3 y0 y1 y2 y3 he2
     generalize grow (wr.drewN nq) osq=w2 at *
     go_wp2
     go_roundw
     case rel=>exact⟨h+1,r,by go_num,rfl,by omega,by omega,h3,HL,HG⟩
     case measure=>simp[intOf];omega
   ·obtain rfl:s=r:=by omega
    obtain⟨X1,X2,Y1,Y2,hT,e1,e2,hL⟩:=HTAIL.out s wr h1 h3 hI.out hW.out
    obtain⟨e,he⟩:∃e,e=nn-s:=⟨_,rfl⟩
    have f1:(nn:Int)-(s:Int)=(e:Int):=by omega
    have f2:m≤e:=by have:=B7.out;omega
    have f3:e≤b:=by omega
    have f4:a≤s:=by omega
    rw[←he] at hT
    have HT:=Lib.hid hT
    have HW:=Lib.hid hL
    have HXY:Hid (MPost w0 blk off A ((X1++X2)++(Y1++Y2)) B=MPost w0 blk off A (X++Y) B):=(show _=_ from by rw[e1,e2])
    clear hT hL e1 e2 he hI hW HTAIL HTC HUP HDN HST c h2
    obtain⟨wq,hwq⟩:∃wq:World,wq=wr:=⟨_,rfl⟩
    rw[←hwq] at HW ⊢
    clear hwq
    go_upto_region 39 with fail
    clear f1
    go_cut [185] from 178 to 184 (fun t wx=>∃q:Bool,t = .bool q∧Hid (q=decide (s<m∧m<e))∧wx=wq)
    case first=>
     by_cases c1:s<m
     ·by_cases c2:m<e
      ·have hd:decide (s<m∧m<e)=true:=decide_eq_true ⟨c1,c2⟩
       have HD:=Lib.hid hd
       clear hd
       go_wp2
       go_meet
       exact⟨_,rfl,HD.out.symm,rfl⟩
      ·have hd:decide (s<m∧m<e)=false:=decide_eq_false (fun h=>c2 h.2)
       have HD:=Lib.hid hd
       clear hd
       go_wp2
       go_meet
       exact⟨_,rfl,HD.out.symm,rfl⟩
     ·have hd:decide (s<m∧m<e)=false:=decide_eq_false (fun h=>c1 h.1)
      have HD:=Lib.hid hd
      clear hd
      go_wp2
      go_meet
      exact⟨_,rfl,HD.out.symm,rfl⟩
    case rest=>
     obtain⟨tq,rfl,HTQ,rfl⟩:=hcut
     go_upto_if 185 with fail
     go_cut [] from 186 to 191 (fun wx=>Hid (LW w0 blk off (A++X1++Y1++X2++Y2++B) wx))
     case first=>
      cases tq with
      | true=>
       have c:=of_decide_eq_true HTQ.out.symm
       go_wp2_with (go_at_call 190;refine(HT.out.rot _ c.1 c.2 HW.out).mono ?_;rintro e w' ⟨rfl,h⟩;have HQ:=Lib.hid h;clear h)
       go_meet
       exact HQ
      | false=>
       have c:=of_decide_eq_false HTQ.out.symm
       go_wp2
       go_meet
       exact HT.out.nrot _ c HW.out
     case rest=>
      obtain⟨w5,hw5⟩:∃x:World,x=wc:=⟨_,rfl⟩
      rw[←hw5] at hcut ⊢
      have HW5:=hcut
      clear hcut hw5
      go_upto_region 41 with fail
      go_cut [199] from 192 to 198 (fun t wx=>∃q:Bool,t = .bool q∧Hid (q=decide (a<s∧s<mid))∧wx=w5)
      case first=>
       by_cases c1:a<s
       ·by_cases c2:s<mid
        ·have hd:decide (a<s∧s<mid)=true:=decide_eq_true ⟨c1,c2⟩
         have HD:=Lib.hid hd
         clear hd
         go_wp2
         go_meet
         exact⟨_,rfl,HD.out.symm,rfl⟩
        ·have hd:decide (a<s∧s<mid)=false:=decide_eq_false (fun h=>c2 h.2)
         have HD:=Lib.hid hd
         clear hd
         go_wp2
         go_meet
         exact⟨_,rfl,HD.out.symm,rfl⟩
       ·have hd:decide (a<s∧s<mid)=false:=decide_eq_false (fun h=>c1 h.1)
        have HD:=Lib.hid hd
        clear hd
        go_wp2
        go_meet
        exact⟨_,rfl,HD.out.symm,rfl⟩
      case rest=>
       obtain⟨tq,rfl,HTQ,rfl⟩:=hcut
       go_upto_if 199 with fail
       go_cut [] from 200 to 205 (fun wx=>Hid (MPost w0 blk off A (X1++Y1) (X2++Y2++B) wx))
       case first=>
        cases tq with
        | true=>
         have c:=of_decide_eq_true HTQ.out.symm
         go_wp2_with (go_at_call 169;refine(HT.out.lo _ c.1 c.2 HW5.out).mono ?_;rintro e w' ⟨rfl,h⟩;have HQ:=Lib.hid h;clear h)
         go_meet
         exact HQ
        | false=>
         have c:=of_decide_eq_false HTQ.out.symm
         go_wp2
         go_meet
         exact HT.out.nlo _ c HW5.out
       case rest=>
        obtain⟨w6,hw6⟩:∃x:World,x=wc:=⟨_,rfl⟩
        rw[←hw6] at hcut ⊢
        have HW6:=hcut
        clear hcut hw6
        go_upto_region 43 with fail
        go_cut [213] from 206 to 212 (fun t wx=>∃q:Bool,t = .bool q∧Hid (q=decide (mid<e∧e<b))∧wx=w6)
        case first=>
         by_cases c1:mid<e
         ·by_cases c2:e<b
          ·have hd:decide (mid<e∧e<b)=true:=decide_eq_true ⟨c1,c2⟩
           have HD:=Lib.hid hd
           clear hd
           go_wp2
           go_meet
           exact⟨_,rfl,HD.out.symm,rfl⟩
          ·have hd:decide (mid<e∧e<b)=false:=decide_eq_false (fun h=>c2 h.2)
           have HD:=Lib.hid hd
           clear hd
           go_wp2
           go_meet
           exact⟨_,rfl,HD.out.symm,rfl⟩
         ·have hd:decide (mid<e∧e<b)=false:=decide_eq_false (fun h=>c1 h.1)
          have HD:=Lib.hid hd
          clear hd
          go_wp2
          go_meet
          exact⟨_,rfl,HD.out.symm,rfl⟩
        case rest=>
         obtain⟨tq,rfl,HTQ,rfl⟩:=hcut
         cases tq with
         | true=>
          have c:=of_decide_eq_true HTQ.out.symm
          go_wp2_with (go_at_call 169;refine(HT.out.hi _ c.1 c.2 HW6.out).mono ?_;rintro e w' ⟨rfl,h⟩;have HQ:=Lib.hid h;clear h)
          go_end0
          exact⟨rfl,by rw[←HXY.out];exact HQ.out⟩
         | false=>
          have c:=of_decide_eq_false HTQ.out.symm
          go_wp2
          go_end0
          exact⟨rfl,by rw[←HXY.out];exact HT.out.nhi _ c HW6.out⟩
end Go.Proofs.YtjfelfjobeeenaaGreat
namespace Go.Proofs
open Go.Shelf
def Tryz.insT_ren:Go.Shelf.Ren:=⟨fun|20=>168|n=>n,fun|24=>56|22=>42|3=>3|25=>113|4=>4|0=>0|n=>n,fun|n=>n⟩
theorem Tryz.insT:Go.Proofs.SlLaysF0.n20 Tryz.prog Tryz.insT_ren:={
 mixed:=by kernel_rfl
 f20:=⟨Tryz.f168.name,by decide,Tryz.func168.trans (congrArg some (by kernel_rfl))⟩
 t0:=Tryz.underlying0
 a0:=Tryz.isAgg0
 z0:=Tryz.sizeOf0
 v0:=Tryz.zeroValue0
 t3:=Tryz.underlying3
 a3:=Tryz.isAgg3
 z3:=Tryz.sizeOf3
 v3:=Tryz.zeroValue3
 t4:=Tryz.underlying4
 a4:=Tryz.isAgg4
 z4:=Tryz.sizeOf4
 v4:=Tryz.zeroValue4
 t22:=Tryz.underlying42
 a22:=Tryz.isAgg42
 z22:=Tryz.sizeOf42
 v22:=Tryz.zeroValue42
 t25:=Tryz.underlying113
 a25:=Tryz.isAgg113
 z25:=Tryz.sizeOf113
 v25:=Tryz.zeroValue113 }
end Go.Proofs
namespace Go.Proofs.YtjfelfjobeeenaaGreat
open Go.RowKit Go.Sf Go.Shelf Go.Sort Go.Lib
theorem merges_all {w0:World} {blk off:Nat} {d0:Array Tsk} (T:TRow w0 blk off d0) (cap sz:Nat) (hz:sz=d0.size):∀n,Merges w0 blk off cap sz n
 | 0=>fun A X Y B w za zm zb h=>absurd h (Nat.not_lt_zero _)
 | n+1=>fun A X Y B w za zm zb h S hs hx hy hX hY ha hm hb=>by
  have IH:=merges_all T cap sz hz n
  by_cases c:X.length+Y.length<n
  ·exact IH A X Y B w za zm zb c S hs hx hy hX hY ha hm hb
  ·have hn:X.length+Y.length=n:=by omega
   by_cases c1:X.length=1
   ·obtain⟨x,rfl⟩:=List.length_eq_one_iff.1 c1
    exact mergeL_any T cap sz hz A Y B x w za zm zb S (by rw[←hz];exact hs) hY ha (by simpa using hm) (by simpa using hb)
   ·by_cases c2:Y.length=1
    ·obtain⟨y,rfl⟩:=List.length_eq_one_iff.1 c2
     exact mergeR_any T cap sz hz A X B y w za zm zb S (by rw[←hz];exact hs) hX (by omega) ha hm (by simpa using hb)
    ·exact mergeG_any T cap sz n hz IH A X Y B w za zm zb S hs hn hX hY (by omega) (by omega) ha hm hb
theorem merge_any {w0:World} {blk off:Nat} {d0:Array Tsk} (T:TRow w0 blk off d0) (cap sz:Nat) (hz:sz=d0.size) (l:List Tsk) (w:World) (a n m:Nat) (za zm zb:Int) (S:LW w0 blk off l w) (hs:sz=l.length) (hb:a+n+m≤sz) (hn:0<n) (hm:0<m) (hX:Srt ltT ((l.drop a).take n)) (hY:Srt ltT ((l.drop (a+n)).take m)) (h1:za=(a:Nat)) (h2:zm=((a+n:Nat):Int)) (h3:zb=((a+n+m:Nat):Int)) :
  Calls Tryz.prog 169 #[.slice (some ⟨blk,off,none⟩) sz cap,.int .i64 za,.int .i64 zm,.int .i64 zb,.func (.func 63) #[] #[]] w fun e w'=>e = .returned (.tuple #[])∧∃l',Upd l l' a (n+m)∧LW w0 blk off l' w':=by
 obtain⟨A,X,Y,B,rfl,e1,e2,e3,e4,e5⟩:=part4 l a n m (by omega)
 rw[←e4] at hX
 rw[←e5] at hY
 refine(merges_all T cap sz hz _ A X Y B w za zm zb (Nat.lt_succ_self _) S hs (by omega) (by omega) hX hY (by omega) (by omega) (by omega)).mono ?_
 rintro e w' ⟨h,Z,p,s,hw⟩
 exact⟨h,_,⟨A,X++Y,Z,B,by simp,rfl,e1,by simp;omega,p,s⟩,hw⟩
theorem insert_any {w0:World} {blk off:Nat} {d0:Array Tsk} (T:TRow w0 blk off d0) (cap sz:Nat) (hz:sz=d0.size) (l:List Tsk) (w:World) (a n:Nat) (za zb:Int) (S:LW w0 blk off l w) (hs:sz=l.length) (hb:a+n≤sz) (h1:za=(a:Nat)) (h2:zb=((a+n:Nat):Int)) :
  Calls Tryz.prog 168 #[.slice (some ⟨blk,off,none⟩) sz cap,.int .i64 za,.int .i64 zb,.func (.func 63) #[] #[]] w fun e w'=>e = .returned (.tuple #[])∧∃l',Upd l l' a n∧LW w0 blk off l' w':=by
 have h:=AnyQ.insertionSortCmpFunc_w Tryz.insT 4 Tryz.isAgg56 Tryz.sizeOf56 tskCells ordT 63 #[] blk off cap a (a+n) d0 l.toArray w0 w (enters_of Tryz.func63 (by kernel_rfl) rfl) cmpT T.R (by rw[←hz,hs];simp) S (by rw[ltOf_ord];exact swoT) (by omega) (by simp;omega) (by simp;rw[←hs,hz];exact T.sz)
 have e1:l.toArray.size=sz:=by rw[hs];simp
 rw[e1,←h1,←h2] at h
 refine Calls.mono h ?_
 rintro e w' ⟨h3,h4⟩
 refine⟨h3,?_⟩
 obtain⟨A,X,B,rfl,e2,e3,e4⟩:=part3 l a n (by omega)
 subst e2 e3
 have hi:=insertionSort_holds swoT (A++X++B).toArray A.length (A.length+X.length) (by omega) (by simp)
 obtain⟨Z,hZ,p⟩:=permIn_list hi.1
 have hl:=p.length_eq
 have hs2:=hi.2
 rw[hZ,←hl] at hs2
 have h5:LW w0 blk off (A++Z++B) w':=by
  unfold LW
  rw[←hZ]
  exact h4
 exact⟨_,⟨A,X,Z,B,rfl,rfl,rfl,rfl,p,sortedIn_list hs2⟩,h5⟩
theorem mul_succ' (t s:Nat):(t+1)*s=t*s+s:=by rw[Nat.add_mul,Nat.one_mul]
set_option maxHeartbeats 8000000 in
set_option maxRecDepth 1000000 in
theorem stable_any {w0:World} {blk off:Nat} {d0:Array Tsk} (T:TRow w0 blk off d0) (cap sz:Nat) (hz:sz=d0.size) (l0:List Tsk) (w:World) (S:LW w0 blk off l0 w) (hs:sz=l0.length) :
  Calls Tryz.prog 124 #[.slice (some ⟨blk,off,none⟩) sz cap,.int .i64 sz,.func (.func 63) #[] #[]] w fun e w'=>e = .returned (.tuple #[])∧∃l',l'.Perm l0∧Srt ltT l'∧LW w0 blk off l' w':=by
 have hN:sz<4611686018427387904:=by rw[hz];exact T.sz
 have HIN:Hid (∀(l:List Tsk) (w:World) (a n:Nat) (za zb:Int),l.Perm l0→LW w0 blk off l w→a+n≤sz→za=(a:Nat)→zb=((a+n:Nat):Int)→Calls Tryz.prog 168 #[.slice (some ⟨blk,off,none⟩) sz cap,.int .i64 za,.int .i64 zb,.func (.func 63) #[] #[]] w fun e w'=>e = .returned (.tuple #[])∧∃l',Upd l l' a n∧l'.Perm l0∧LW w0 blk off l' w'):=
  (show ∀(l:List Tsk) (w:World) (a n:Nat) (za zb:Int),_→_→_→_→_→Calls _ _ _ _ _ from fun l w a n za zb hp hw h1 h2 h3=>(insert_any T cap sz hz l w a n za zb hw (by rw[hs,hp.length_eq]) h1 h2 h3).mono fun e w' ⟨g1,l',g2,g3⟩=>⟨g1,l',g2,g2.perm.trans hp,g3⟩)
 have HMG:Hid (∀(l:List Tsk) (w:World) (a n m:Nat) (za zm zb:Int),l.Perm l0→LW w0 blk off l w→a+n+m≤sz→0<n→0<m→Srt ltT ((l.drop a).take n)→Srt ltT ((l.drop (a+n)).take m)→za=(a:Nat)→zm=((a+n:Nat):Int)→zb=((a+n+m:Nat):Int)→Calls Tryz.prog 169 #[.slice (some ⟨blk,off,none⟩) sz cap,.int .i64 za,.int .i64 zm,.int .i64 zb,.func (.func 63) #[] #[]] w fun e w'=>e = .returned (.tuple #[])∧∃l',Upd l l' a (n+m)∧l'.Perm l0∧LW w0 blk off l' w'):=
  (show ∀(l:List Tsk) (w:World) (a n m:Nat) (za zm zb:Int),_→_→_→_→_→_→_→_→_→_→Calls _ _ _ _ _ from fun l w a n m za zm zb hp hw h1 h2 h3 h4 h5 h6 h7 h8=>(merge_any T cap sz hz l w a n m za zm zb hw (by rw[hs,hp.length_eq]) h1 h2 h3 h4 h5 h6 h7 h8).mono fun e w' ⟨g1,l',g2,g3⟩=>⟨g1,l',g2,g2.perm.trans hp,g3⟩)
 have HLEN:Hid (∀l:List Tsk,l.Perm l0→l.length=sz):=(show ∀_,_→_=_ from fun l hp=>by rw[hp.length_eq,hs])
 have H0:=Lib.hid S
 clear S T hz hs
 go_enter Tryz.func124,Tryz.ntmps124
 go_wp2
 go_loopw [7,8] (fun i j wr=>∃(ka kb t:Nat) (l:List Tsk),i = .int .i64 ka∧j = .int .i64 kb∧kb≤ka+20∧ka+20≤kb∧ka≤sz∧Hid (ka=t*20)∧Hid (RunsTo 20 t l)∧Hid (l.Perm l0)∧Hid (LW w0 blk off l wr)) (fun i _ _=>sz-(intOf i).toNat)
 case atStart=>exact⟨0,20,0,l0,rfl,rfl,by omega,by omega,by omega,(show _=_ from rfl),(show RunsTo _ _ _ from RunsTo.zero _ _),(show List.Perm _ _ from List.Perm.refl _),H0⟩
 case round=>
  clear H0
  obtain⟨ka,kb,t,l,rfl,rfl,h1,h2,h3,hk,hr,hp,hw⟩:=hrel
  by_cases c:kb≤sz
  ·have HQ:=Lib.hid (HIN.out l wr ka 20 ka kb hp.out hw.out (by omega) rfl (by omega))
   go_wp2_with (go_at_call 168;refine HQ.out.mono ?_;rintro e w2 ⟨rfl,l2,hu,hp2,hw2⟩;have HU:=Lib.hid hu;have HP2:=Lib.hid hp2;have HW2:=Lib.hid hw2;clear hu hp2 hw2)
   go_roundw
   case rel=>exact⟨kb,kb+20,t+1,l2,rfl,by go_num,by omega,by omega,c,(show _=_ from by have:=hk.out;rw[mul_succ'];omega),(show RunsTo _ _ _ from hr.out.next (by rw[←hk.out];exact HU.out)),HP2,HW2⟩
   case measure=>simp[intOf];omega
  ·have HQ:=Lib.hid (HIN.out l wr ka (sz-ka) ka sz hp.out hw.out (by omega) rfl (by omega))
   have HL:=Lib.hid (HLEN.out l hp.out)
   go_wp2_with (go_at_call 168;refine HQ.out.mono ?_;rintro e w2 ⟨rfl,l2,hu,hp2,hw2⟩;have HP2:=Lib.hid hp2;have HW2:=Lib.hid hw2;have HR:Hid (Runs 20 l2):=(show Runs _ _ from hr.out.last (by rw[HL.out,←hk.out];exact hu) (by rw[HL.out,←hk.out];omega) (by rw[HL.out,←hk.out];omega));clear hu hp2 hw2)
   clear hk hr hp hw HQ HL c h1 h2 h3
   obtain⟨w3,hw3⟩:∃x:World,x=w2:=⟨_,rfl⟩
   rw[←hw3] at HW2 ⊢
   clear hw3
   go_loopw [6] (fun i wr=>∃(s:Nat) (l:List Tsk),i = .int .i64 s∧20≤s∧s≤2*sz+20∧Hid (Runs s l)∧Hid (l.Perm l0)∧Hid (LW w0 blk off l wr)) (fun i _=>sz-(intOf i).toNat)
   case atStart=>exact⟨20,l2,rfl,by omega,by omega,HR,HP2,HW2⟩
   case round=>
    clear HR HP2 HW2
    obtain⟨s,l,rfl,s1,s2,hr,hp,hw⟩:=hrel
    by_cases c:s<sz
    ·obtain⟨w4,hw4⟩:∃x:World,x=wr:=⟨_,rfl⟩
     rw[←hw4] at hw ⊢
     clear hw4
     go_wp2
     go_loopw [7,8] (fun i j wr=>∃(ka kb t:Nat) (l:List Tsk),i = .int .i64 ka∧j = .int .i64 kb∧kb≤ka+2*s∧ka+2*s≤kb∧ka≤sz∧Hid (ka=t*(2*s))∧Hid (Half s t l)∧Hid (l.Perm l0)∧Hid (LW w0 blk off l wr)) (fun i _ _=>sz-(intOf i).toNat)
     case atStart=>exact⟨0,2*s,0,l,rfl,by go_num,by omega,by omega,by omega,(show _=_ from by simp),(show Half _ _ _ from Half.zero hr.out),hp,hw⟩
     case round=>
      clear hr hp hw
      obtain⟨ka,kb,t,l,rfl,rfl,h1,h2,h3,hk,hr,hp,hw⟩:=hrel
      by_cases c2:kb≤sz
      ·have HQ:=Lib.hid (HMG.out l wr ka s s ka ((ka:Int)+(s:Int)) kb hp.out hw.out (by omega) (by omega) (by omega) (by have:=hr.out.left;rw[←hk.out] at this;exact this) (by have:=hr.out.right;rw[←hk.out] at this;exact this) rfl (by omega) (by omega))
       go_wp2_with (go_at_call 169;refine HQ.out.mono ?_;rintro e w2 ⟨rfl,l2,hu,hp2,hw2⟩;have HU:=Lib.hid hu;have HP2:=Lib.hid hp2;have HW2:=Lib.hid hw2;clear hu hp2 hw2)
       go_roundw
       case rel=>exact⟨kb,kb+2*s,t+1,l2,rfl,by go_num,by omega,by omega,c2,(show _=_ from by have:=hk.out;rw[mul_succ'];omega),(show Half _ _ _ from hr.out.next (by have:=HU.out;rw[←hk.out,show 2*s=s+s from by omega];exact this)),HP2,HW2⟩
       case measure=>simp[intOf];omega
      ·have HL:=Lib.hid (HLEN.out l hp.out)
       by_cases c3:ka+s<sz
       ·have HQ:=Lib.hid (HMG.out l wr ka s (sz-ka-s) ka ((ka:Int)+(s:Int)) sz hp.out hw.out (by omega) (by omega) (by omega) (by have:=hr.out.left;rw[←hk.out] at this;exact this) (by
         have:=hr.out.right
         rw[←hk.out] at this
         rw[List.take_of_length_le (by simp[HL.out];omega)] at this ⊢
         exact this) rfl (by omega) (by omega))
        go_wp2_with (go_at_call 169;refine HQ.out.mono ?_;rintro e w2 ⟨rfl,l2,hu,hp2,hw2⟩;have HP2:=Lib.hid hp2;have HW2:=Lib.hid hw2;have HR:Hid (Runs (2*s) l2):=(show Runs _ _ from hr.out.last (by rw[HL.out,←hk.out];rw[show s+(sz-ka-s)=sz-ka from by omega] at hu;exact hu) (by rw[HL.out,←hk.out];omega) (by rw[HL.out,←hk.out];omega));clear hu hp2 hw2)
        go_roundw
        case rel=>exact⟨s*2,l2,by go_num,by omega,by omega,by rw[Nat.mul_comm];exact HR,HP2,HW2⟩
        case measure=>simp[intOf];omega
       ·have HR:Hid (Runs (2*s) l):=(show Runs _ _ from hr.out.stay (by rw[HL.out,←hk.out];omega))
        go_wp2
        go_roundw
        case rel=>exact⟨s*2,l,by go_num,by omega,by omega,by rw[Nat.mul_comm];exact HR,hp,hw⟩
        case measure=>simp[intOf];omega
    ·have HL:=Lib.hid (HLEN.out l hp.out)
     go_wp2
     go_end0
     exact⟨rfl,l,hp.out,hr.out.whole (by rw[HL.out];omega),hw.out⟩
def sortT (ts:List Tsk):List Tsk:=ts.mergeSort fun x y=>!ltT y x
theorem sortT_perm (ts:List Tsk):(sortT ts).Perm ts:=List.mergeSort_perm _ _
theorem sortT_srt (ts:List Tsk):Srt ltT (sortT ts):=by
 have h:=List.pairwise_mergeSort (le:=fun x y=>!ltT y x) (fun a b c h1 h2=>by
  simp only[Bool.not_eq_true'] at *
  exact linT.thr a b c h1 h2) (fun a b=>by
  cases e:ltT b a with
  | false=>simp
  | true=>simp[linT.tot b a e]) ts
 exact List.Pairwise.imp (fun h=>by simpa using h) h
theorem sortT_eq {ts l:List Tsk} (hp:l.Perm ts) (hs:Srt ltT l):l=sortT ts:=srt_unique linT ltT_same hs (sortT_srt ts) (hp.trans (sortT_perm ts).symm)
theorem flatT_get:∀(l:List Tsk) (t:Nat),t<l.length*4→(l.flatMap tskCells)[t]? = some ((tskCells (l[t / 4]!))[t%4]!)
 | [],t,h=>by simp at h
 | x :: r,0,h=>rfl
 | x :: r,1,h=>rfl
 | x :: r,2,h=>rfl
 | x :: r,3,h=>rfl
 | x :: r,t+4,h=>by
  have ih:=flatT_get r t (by simp at h;omega)
  have e1:(t+4) / 4=t / 4+1:=by omega
  have e2:(t+4)%4=t%4:=by omega
  rw[e1,e2]
  have:(x :: r).flatMap tskCells=Value.string x.id.key :: Value.int .i64 x.id.ver :: Value.int .i64 x.nd :: Value.int .i64 x.held :: r.flatMap tskCells:=rfl
  rw[this]
  simpa using ih
theorem flatT_len (l:List Tsk):(l.flatMap tskCells).length=l.length*4:=by
 induction l with
 | nil=>rfl
 | cons x r ih=>simp[tskCells,ih];omega
theorem flatK_tsk (l:List Tsk):flatK tskCells 4 l.toArray=(l.flatMap tskCells).toArray:=by
 apply Array.ext
 ·rw[size_flatK,List.size_toArray,List.size_toArray,flatT_len]
 ·intro t h1 h2
  have h3:t<l.length*4:=by simpa using h1
  have h4:=get_flatK tskCells 4 l.toArray t (by simpa using h3)
  rw[getElem!_pos _ t h1] at h4
  rw[h4]
  have h5:=flatT_get l t h3
  simp only[List.getElem_toArray]
  have h6:t<(l.flatMap tskCells).length:=by rw[flatT_len];exact h3
  rw[List.getElem?_eq_getElem h6] at h5
  have h7:=Option.some.inj h5
  rw[h7]
  simp
theorem insT_none (p:Option Addr) (cap:Nat) (fv:Value) (w:World):Calls Tryz.prog 168 #[.slice p 0 cap,.int .i64 0,.int .i64 0,fv] w fun e w'=>e = .returned (.tuple #[])∧w'=w:=
 AnyF.insertionSortCmpFunc_none Tryz.insT p cap fv w
set_option maxHeartbeats 2000000 in
theorem stable_none (p:Option Addr) (cap:Nat) (fv:Value) (w:World):Calls Tryz.prog 124 #[.slice p 0 cap,.int .i64 0,fv] w fun e w'=>e = .returned (.tuple #[])∧w'=w:=by
 go_enter Tryz.func124,Tryz.ntmps124
 go_wp2
 refine wp_loop_rounds 1 ?_
 rw[rounds_succ]
 go_wp2_with (go_at_call 168;refine(insT_none _ _ _ _).mono ?_;rintro e w' ⟨rfl,rfl⟩)
 refine wp_loop_rounds 1 ?_
 rw[rounds_succ]
 go_wp2
 go_end0
 exact⟨rfl,rfl⟩
set_option maxHeartbeats 2000000 in
theorem sst_any {base:Nat} {v:Value} {ts:List Tsk} {w:World} (h:w.ownsRow base 56 4 v ts.length (ts.flatMap tskCells)) (hl:ts.length≤1000000) :
  Calls Tryz.prog 62 #[v,.func (.func 63) #[] #[]] w fun e w'=>e = .returned (.tuple #[])∧w'.ownsRow base 56 4 v ts.length ((sortT ts).flatMap tskCells)∧w.grownBy w' v.ownBlock:=by
 rcases h.2 with ⟨rfl,hz⟩|⟨g,cap,cur,rfl,hbase,hgb,r1,r2,r3,r4⟩
 ·have hss:ts = []:=List.eq_nil_of_length_eq_zero hz
  have HH:=Lib.hid h
  subst hss
  clear h
  go_enter Tryz.func62,Tryz.ntmps62
  go_wp2_with (go_at_call 124;refine(stable_none _ _ _ _).mono ?_;rintro e w' ⟨rfl,rfl⟩)
  go_end0
  exact⟨rfl,by have:=HH.out;rw[show sortT [] = [] from List.mergeSort_nil];exact this,grown_refl _⟩
 ·have hH:HoldsK tskCells 4 w g 0 ts.toArray:=by
   unfold HoldsK
   rw[flatK_tsk]
   exact holdsV hgb (by rw[flatT_len];exact r4)
  have T:TRow w g 0 ts.toArray:=⟨⟨tsk_len,tsk_one,hH,(Array.getElem?_eq_some_iff.1 hgb).1⟩,by simp;omega⟩
  have HS:=Lib.hid (stable_any T cap ts.length (by simp) ts w (SWK.start hH) rfl)
  have HQ:Hid (∀W' l',l'.Perm ts→Srt ltT l'→LW w g 0 l' W'→W'.ownsRow base 56 4 (.slice (some ⟨g,0,none⟩) ts.length cap) ts.length ((sortT ts).flatMap tskCells)∧w.grownBy W' (some g)):=(show ∀_ _,_→_→_→_ from fun W' l' hp hs hw=>by
   rw[←sortT_eq hp hs]
   obtain⟨n,os,rfl⟩:=hw
   unfold sortWorldK putRowK
   rw[flatK_tsk]
   rw[show ts.length=l'.length from hp.length_eq.symm]
   exact⟨ownsRow_sortedV (by rw[flatT_len]) hbase hgb (by rw[hp.length_eq];exact r1) r2 r3,grownBy_sortedV _⟩)
  clear h hbase hgb r1 r2 r3 r4 hH T
  go_enter Tryz.func62,Tryz.ntmps62
  go_wp2_with (go_at_call 124;refine HS.out.mono ?_;rintro e w' ⟨rfl,l',h1,h2,h3⟩;have HZ:=Lib.hid (HQ.out _ _ h1 h2 h3);clear h1 h2 h3)
  go_end0
  exact⟨rfl,HZ.out⟩
end Go.Proofs.YtjfelfjobeeenaaGreat
