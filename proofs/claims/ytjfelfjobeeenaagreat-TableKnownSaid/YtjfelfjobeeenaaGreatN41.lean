/- What Missing answers: the walk. Conditions: none, or as the theorems say. -/
import Derived.Test.YtjfelfjobeeenaaGreatN39
import Derived.Test.YtjfelfjobeeenaaGreatN20
import Derived.Test.YtjfelfjobeeenaaGreatN40
import Derived.Test.YtjfelfjobeeenaaGreatN27
import Derived.Deep.CutBlock
import Derived.Deep.RegionLaw
namespace Go.Proofs.YtjfelfjobeeenaaGreat
set_option maxHeartbeats 200000000
set_option linter.unusedVariables false
set_option linter.unusedSimpArgs false
open Go.RowKit Go.Sf Go.Shelf
theorem zrk {w:World}:Zu w 2 ya (.slice none 0 0) ([]:List ID):=⟨none,0,rfl,Or.inl rfl⟩
theorem zum {W:World} {tb:Nat} {T:Tab} (h:yh W tb T) (n:Int) (b1 b2:Nat) (h1:W.cell? ⟨b1,0,none⟩=some (.pointer (some ⟨tb,0,none⟩))) (h2:W.cell? ⟨b2,0,none⟩=some (.int .i64 n)) :
  PredI W (.func (.func 103) #[] #[.pointer (some ⟨b1,0,none⟩),.pointer (some ⟨b2,0,none⟩)]) (zec T n) (fun k=>k∈T.blocks tb∨k=b1∨k=b2):=by
 refine⟨_,_,rfl,enters_of Tryz.func103 (by kernel_rfl) rfl,fun i w hb _=>?_⟩
 have ht:yh w tb T:=h.same fun b hbm=>hb b (Or.inl hbm)
 have k1:w.cell? ⟨b1,0,none⟩=some (.pointer (some ⟨tb,0,none⟩)):=(World.cell?_of_block (a:=⟨b1,0,none⟩) (hb b1 (Or.inr (Or.inl rfl)))).trans h1;have k2:w.cell? ⟨b2,0,none⟩=some (.int .i64 n):=(World.cell?_of_block (a:=⟨b2,0,none⟩) (hb b2 (Or.inr (Or.inr rfl)))).trans h2
 exact zt4 ht i n b1 b2 k1 k2
section
variable {w : World} {tb : Nat} {T : Tab}
set_option maxRecDepth 100000 in
theorem zmp (h:yh w tb T) (n:Int) (hll:T.zv0.length≤9223372036854775807) (hr:∀p∈T.values,p.1.size≤maxLen) (hl:T.values.length≤1000000) :
  Calls Tryz.prog 43 #[.pointer (some ⟨tb,0,none⟩),.int .i64 n] w fun e w'=>∃v,e = .returned v∧Zu w' 2 ya v (zbe T n)∧w.grownBy w' none:=by
 have HLF:Hid (∀W,w.grownBy W none→Calls Tryz.prog 23 #[.pointer (some ⟨tb,0,none⟩),.int .i64 n] W fun e w'=>e = .returned (.int .i64 (yq T n))∧W.grownBy w' none):=(show ∀_,_→Calls _ _ _ _ _ from fun W hg=>zme (h.grown hg) n hll)
 have HCU:Hid (∀W,w.grownBy W none→Calls Tryz.prog 42 #[.pointer (some ⟨tb,0,none⟩)] W fun e w'=>∃v,e = .returned v∧jl W.heap.size w' v (Ur T)∧W.grownBy w' none):=(show ∀_,_→Calls _ _ _ _ _ from fun W hg=>ze4 (h.grown hg) hr hl)
 have HT:=za h;have htb:=h.tlt;have HCL:Hid ((Ur T).length≤1000000):=(show _≤_ from Nat.le_trans (List.length_filterMap_le _ _) (by rw[zdw];exact hl))
 clear h hr hl
 by_cases hz:yq T n=0
 ·have HM:Hid (zbe T n = []):=(show _=_ from by unfold zbe;rw[if_pos hz])
  rw[hz] at HLF;clear hz HCU
  go_enter Tryz.func43,Tryz.ntmps43
  go_upto_region 1 with fail
  have HG:Hid (w.grownBy ((w.alloc (.cells #[.pointer (some ⟨tb,0,none⟩)] 38)).alloc (.cells #[.int .i64 n] 3)) none):=(show w.grownBy _ none from zg (zg (zd _) _) _)
  have hq:=HLF.out _ HG.out
  go_wp2_with (go_at_call 23;refine hq.mono ?_;rintro e w1 ⟨rfl,hg⟩;have HG1:=za hg;clear hg)
  go_ret
  exact⟨_,rfl,by rw[HM.out];exact zrk,ze HG.out HG1.out⟩
 ·have HM:Hid (zbe T n=(Ur T).filter fun i=>!zec T n i):=(show _=_ from by unfold zbe;rw[if_neg hz];rfl)
  have hzb:(yq T n == 0)=false:=by simpa using hz
  generalize yq T n=lv at *;clear hz
  go_enter Tryz.func43,Tryz.ntmps43
  go_upto_region 1 with fail
  have HG:Hid (w.grownBy ((w.alloc (.cells #[.pointer (some ⟨tb,0,none⟩)] 38)).alloc (.cells #[.int .i64 n] 3)) none):=(show w.grownBy _ none from zg (zg (zd _) _) _)
  have HB1:Hid (((w.alloc (.cells #[.pointer (some ⟨tb,0,none⟩)] 38)).alloc (.cells #[.int .i64 n] 3)).cell? ⟨w.heap.size,0,none⟩=some (.pointer (some ⟨tb,0,none⟩))):=(show _=_ from by simp[go_sem])
  have HB2:Hid (((w.alloc (.cells #[.pointer (some ⟨tb,0,none⟩)] 38)).alloc (.cells #[.int .i64 n] 3)).cell? ⟨w.heap.size+1,0,none⟩=some (.int .i64 n)):=(show _=_ from by have:=heap_alloc_new (w.alloc (.cells #[.pointer (some ⟨tb,0,none⟩)] 38)) (.cells #[.int .i64 n] 3);simp only[World.size_alloc] at this;exact(zh this 0).trans rfl)
  have hq:=HLF.out _ HG.out
  go_upto_region 3 with (go_at_call 23;refine hq.mono ?_;rintro e w1 ⟨rfl,hg⟩;have HG1:=za hg;clear hg)
  generalize (w.alloc (.cells #[.pointer (some ⟨tb,0,none⟩)] 38)).alloc (.cells #[.int .i64 n] 3)=wa at *;have HC1:Hid (w1.cell? ⟨w.heap.size,0,none⟩=some (.pointer (some ⟨tb,0,none⟩))):=(show _=_ from HG1.out.cell HB1.out (by simp))
  have HC2:Hid (w1.cell? ⟨w.heap.size+1,0,none⟩=some (.int .i64 n)):=(show _=_ from HG1.out.cell HB2.out (by simp))
  have HW1:=za (ze HG.out HG1.out);have c1:=HC1.out;clear hq;have HDF:Hid (∀(w2:World) (v:Value),w1.grownBy w2 none→jl w1.heap.size w2 v (Ur T)→Calls Tryz.prog 105 #[v,.func (.func 103) #[] #[.pointer (some ⟨w.heap.size,0,none⟩),.pointer (some ⟨w.heap.size+1,0,none⟩)]] w2 fun e w'=>∃v',e = .returned v'∧Zu w' 2 ya v' ((Ur T).filter fun i=>!zec T n i)∧w.grownBy w' none):=(show ∀(_:World) (_:Value),_→_→_ from by
   intro w2 v hg2 hv;have hlt:∀k,(k∈T.blocks tb∨k=w.heap.size∨k=w.heap.size+1)→k<w1.heap.size:=by
    rintro k (hk|rfl|rfl)
    ·exact Nat.lt_of_lt_of_le (HT.out.lt k hk) HW1.out.size
    ·exact yo HC1.out
    ·exact yo HC2.out
   refine(zte (l:=Ur T) (zum (HT.out.grown (ze HW1.out hg2)) n w.heap.size (w.heap.size+1) (hg2.cell HC1.out (by simp)) (hg2.cell HC2.out (by simp))) (Vv hv (Nat.zero_le _)) HCL.out (fun k hk=>Nat.lt_of_lt_of_le (hlt k hk) hg2.size) (fun g hg hk=>?_)).mono ?_
   ·have h1:=Jt hv g hg
    have h2:=hlt g hk;omega
   ·rintro e w' ⟨v',h1,h2,h3⟩
    exact⟨v',h1,h2,jk (ze HW1.out hg2) h3 (fun k hk=>Nat.le_trans HW1.out.size (Jt hv k hk))⟩)
  go_wp2_with (first
   | (go_at_call 42;refine(HCU.out _ HW1.out).mono ?_;rintro e w2 ⟨v,rfl,hv,hg⟩;have HQ:=za (HDF.out w2 v hg hv);clear hv hg)
   | (go_at_call 105;refine HQ.out.mono ?_;rintro e w3 ⟨v',rfl,hr,hg⟩;have HR:=za hr;have HG3:=za hg;clear hr hg))
  go_ret
  exact⟨_,rfl,by rw[HM.out];exact HR.out,HG3.out⟩
end
theorem zoz {bs:Nat→Prop} {w:World} {tb:Nat} {L:Tab} (h:At bs w tb L) (n:Int) (hll:L.zv0.length≤9223372036854775807) (hr:∀p∈L.values,p.1.size≤maxLen) (hl:L.values.length≤1000000) :
  Calls Tryz.prog 43 #[.pointer (some ⟨tb,0,none⟩),.int .i64 n] w fun e w'=>∃v,e = .returned v∧Zu w' 2 ya v (zbe L n)∧w.grownBy w' none:=by
 obtain⟨T,h1,rfl,h3⟩:=h.ex;have h2:=zmp h1 n hll hr hl;have e:zbe T.norm n=zbe T n:=by
  unfold zbe;have e1:yq T.norm n=yq T n:=rfl;have e2:Ur T.norm=Ur T:=rfl;rw[e1,e2]
  split
  ·rfl
  ·refine List.filter_congr fun x _=>?_
   unfold zo5 zec
   show(!decide (n∈memH (vp T.holds) x))=_
   rw[Vf]
 rw[e]
 exact h2
structure Parts (W:World) (v:Value) (out:List ID) (k c:Nat):Prop where
 low:∀s,s≤k→∀W',W.grownBy W' none→∀p,v = .slice p k c→zh7 W' ya (.slice p s c) (out.take s)
theorem zuk {W:World} {v:Value} {out:List ID} {k c:Nat} {E:TypeId} (h:uu W E 2 ya v out) (hk:out.length=k):Parts W v out k c:=by
 subst hk;refine⟨fun s hs W' hg p hv=>?_⟩
 have h':=h.grown hg (by simp)
 rcases h.2 with ⟨e,h0⟩|⟨g,c2,cur,e,_⟩
 ·rw[hv] at e
  injection e with e1 e2 e3
  subst e1;have:out = []:=List.eq_nil_of_length_eq_zero h0;subst this;have:s=0:=by simpa using hs
  subst this
  exact⟨none,c,rfl,Or.inl rfl⟩
 ·rw[e] at h' hv
  injection hv with e1 e2 e3
  subst e1 e3
  exact zez jq h' s hs _
section
variable {W : World}
set_option maxRecDepth 100000 in
theorem zfo {v:Value} {l:List ID} (h:uu W 59 2 ya v l) (hl:l.length≤1000000):Calls Tryz.prog 176 #[v] W fun e w'=>∃v',e = .returned v'∧xc W 59 2 ya v' (Qr l) w':=by
 obtain⟨i0,hi,hz0,hz1,hz2⟩:=info_parts zf9;obtain⟨pl,cl,rfl,hcl,hlc⟩:=h.form;have HL:=za h;clear h
 go_enter Tryz.func176,Tryz.ntmps176
 go_wp2
 go_loopw [3,4] (fun o x wr=>∃k:Nat,k≤l.length∧x = .int .i64 k∧xc W 59 2 ya o (zdm l k) wr) (fun _ x _=>l.length-(intOf x).toNat)
 case atStart=>exact⟨0,Nat.zero_le _,rfl,by rw[zr1];exact xc.start _ _ _ _⟩
 case round=>
  obtain⟨k,hk,rfl,hgr⟩:=hrel;have hol:=zui l k hk;obtain⟨po,co,rfl,hco,hlo⟩:=hgr.row.form
  by_cases hlt:k<l.length
  ·have HS:Hid (zdm l (k+1)=Jh (zdm l k) l[k]):=(show _=_ from zr0 l k hlt)
   have hLr:=HL.out.grown hgr.grown (by simp)
   obtain⟨g,c',e,hc,-⟩:=(hLr.at jq).resolve_left (fun e=>by rw[e] at hlt;simp at hlt)
   injection e with e1 e2 e3
   subst e1;have a0:wr.cell? ⟨g,k*2,none⟩=some (.string l[k].key):=hc k hlt 0 _ rfl;have a1:wr.cell? ⟨g,k*2+1,none⟩=some (.int .i64 l[k].zvz):=hc k hlt 1 _ rfl;have HGR:=za hgr;have hgw:g<wr.heap.size:=yo a0;clear hc hLr e2 e3 hgr;generalize l[k]=z at *;generalize zdm l k=out at *;subst hol;have HPT:=za (zuk (k:=out.length) (c:=co) HGR.out.row rfl)
   go_upto_block 2 with fail
   go_cut [5] (fun s wx=>∃j:Nat,j≤out.length∧s = .int .i64 j∧Yk z out out.length=j∧wr.grownBy wx none)
   case first=>
    clear hlo hco;generalize wr=W3 at *
    go_wp2_with fail
    go_loopw [5] (fun s wx=>∃j:Nat,j≤out.length∧s = .int .i64 j∧Yk z out out.length=Yk z out j∧W3.grownBy wx none) (fun s _=>(intOf s).toNat)
    case atStart=>exact⟨out.length,Nat.le_refl _,rfl,rfl,zd _⟩
    case round=>
     obtain⟨j,hj,rfl,hs,hgx⟩:=hrel;have HSL:=za hs;have HGX:=za hgx;clear hs
     cases j with
     | zero=>
      clear hgx a0 a1 hgw;go_wp2
      go_quiet (fail)
      go_wp2
      go_meet
      exact⟨0,Nat.zero_le _,rfl,by rw[HSL.out];rfl,ze HGX.out (zj _ _)⟩
     | succ j=>
      have hjl:j<out.length:=by omega
      obtain⟨gb,cb,e,hc,-⟩:=(HGR.out.row.at jq).resolve_left (fun e=>by rw[e] at hjl;simp at hjl)
      injection e with e1 e2 e3
      subst e1;have b0:wr.cell? ⟨gb,j*2,none⟩=some (.string out[j].key):=hgx.cell (hc j hjl 0 _ rfl) (by simp)
      have b1:wr.cell? ⟨gb,j*2+1,none⟩=some (.int .i64 out[j].zvz):=hgx.cell (hc j hjl 1 _ rfl) (by simp)
      have c0:wr.cell? ⟨g,out.length*2,none⟩=some (.string z.key):=hgx.cell a0 (by simp)
      have c1:wr.cell? ⟨g,out.length*2+1,none⟩=some (.int .i64 z.zvz):=hgx.cell a1 (by simp)
      have l0:=yo b0;have l1:=yo c0;have HLS:Hid (∀W':World,Calls Tryz.prog 175 #[.agg #[.string z.key,.int .i64 z.zvz],.agg #[.string out[j].key,.int .i64 out[j].zvz]] W' fun e w'=>e = .returned (.bool (ltI z out[j]))∧W'.grownBy w' none):=(show ∀_,_ from fun W'=>zsa z out[j] W')
      have HJ:=za (And.intro (zsi z out j hjl) (zsj z out j hjl));clear hc e2 e3 a0 a1 hgw hgx HGR;generalize hlz:ltI z out[j]=b at *;clear hlz;generalize out[j]=y at *;have hij:((j+1:Nat):Int)-1=j:=by omega
      go_wp2;refine zo (by kernel_rfl) (by kernel_rfl) ?_
      repeat (any_goals (first|go_big_quiet_step ((go_at_call 175;exact zq (HLS.out _)))|quiet_step ((go_at_call 175;exact zq (HLS.out _)))))
      refine wpQuiet_nil ?_;intro _ hw';obtain⟨x,hw''⟩:=hw';subst hw''
      cases b
      ·go_wp2
       go_meet
       exact⟨j+1,by omega,rfl,by rw[HSL.out];exact HJ.out.2 trivial,zi HGX.out _⟩
      ·go_wp2
       go_roundw
       case rel=>exact⟨j,by omega,by go_num,by rw[HSL.out];exact HJ.out.1 rfl,zi HGX.out _⟩
       case measure=>simp[intOf]
   case rest=>
    obtain⟨s,hs,rfl,hsl,hgx⟩:=hcut;have HIN:Hid (Jh out z=out.take s ++ [z]++out.drop s):=(show _=_ from insL_at hsl)
    have HT:Hid (zh7 wc ya (.slice po s co) (out.take s)):=(show zh7 _ _ _ _ from HPT.out.low s hs wc hgx po rfl)
    have HO:=za (HGR.out.row.grown hgx (by simp))
    have HGC:=za (ze HGR.out.grown hgx);have HK:Hid (out.length<l.length):=(show _<_ from hlt)
    have HHS:Hid (s≤out.length):=(show _≤_ from hs)
    have HOC:Hid (out.length≤co):=(show _≤_ from hlo)
    have c0:wc.cell? ⟨g,out.length*2,none⟩=some (.string z.key):=hgx.cell a0 (by simp)
    have c1:wc.cell? ⟨g,out.length*2+1,none⟩=some (.int .i64 z.zvz):=hgx.cell a1 (by simp)
    have HD:Hid (po=none∧out = []∧co=0∨(∃gb,po=some ⟨gb,0,none⟩)∧co=s∨(∃gb,po=some ⟨gb,0,none⟩)∧s<co):=(show _∨_∨_ from by
     rcases HGR.out.row.2 with ⟨e,h0⟩|⟨gb,cb,cur,e,_,_,r1,_,_⟩
     ·injection e with e1 e2 e3
      exact Or.inl ⟨e1,List.eq_nil_of_length_eq_zero h0,e3⟩
     ·injection e with e1 e2 e3
      rcases Nat.lt_or_ge s co with h|h
      ·exact Or.inr (Or.inr ⟨⟨gb,e1⟩,h⟩)
      ·exact Or.inr (Or.inl ⟨⟨gb,e1⟩,by omega⟩))
    have c0':=za c0;have c1':=za c1;clear a0 a1 hgw HPT hgx HGR
    go_upto_region 10 with (at_builtin;refine xr (l:=[]) (m:=out.take s) _ rfl (.tmp 31) (.tmp 34) 139 rfl jq zfi i0 _ 24 Tryz.underlying139 hi hz0 hz1 hz2 rfl (by decide) (by decide) rfl ?a1 rfl ?a2 ?a3 s ?a4 ?_)
    case a1=>exact World.ownsRow_nil _ _ _ _
    case a2=>exact HT.out
    case a3=>have:=HHS.out;simp;omega
    case a4=>have:=HHS.out;simp;omega
    intro p1 cap1 w1 ha1;have HG1:=za (xc.app (xc.start wc 59 2 ya) ha1);have c0:w1.cell? ⟨g,out.length*2,none⟩=some (.string z.key):=HG1.out.grown.cell c0'.out (by simp)
    have c1:w1.cell? ⟨g,out.length*2+1,none⟩=some (.int .i64 z.zvz):=HG1.out.grown.cell c1'.out (by simp)
    clear ha1
    go_upto_region 11 with (at_builtin;refine xr (l:=out.take s) (m:=[z]) _ rfl (.tmp 36) (.tmp 41) 139 rfl jq zfi i0 _ 24 Tryz.underlying139 hi hz0 hz1 hz2 rfl (by decide) (by decide) rfl ?b1 rfl ?b2 ?b3 (s+1) ?b4 ?_)
    case b1=>exact(HG1.out.more (zg (zd _) _)).row
    case b2=>exact Zw z (heap_alloc_new _ _)
    case b3=>have:=HHS.out;simp;omega
    case b4=>have:=HHS.out;simp;omega
    intro p2 cap2 w2 ha2;have HG2:=za (xc.app (HG1.out.more (zg (zd _) _)) ha2);have HO2:=za (HO.out.grown HG2.out.grown (by simp))
    clear ha2 c0 c1
    rcases HD.out with ⟨rfl,hout,rfl⟩|⟨⟨gb,rfl⟩,rfl⟩|⟨⟨gb,rfl⟩,hsc⟩
    ·have hz:out.length=0:=by rw[hout];rfl
     obtain rfl:s=0:=by omega
     have HOU:=za hout;have HK0:=za (show 0<l.length from by have:=HK.out;omega)
     clear hout hlo hco;rw[hz] at hlt hs;simp only[hz]
     go_wp2_with (at_builtin;refine xr (l:=out.take 0 ++ [z]) (m:=out.drop 0) _ rfl (.tmp 43) (.tmp 46) 139 rfl jq zfi i0 _ 24 Tryz.underlying139 hi hz0 hz1 hz2 rfl (by decide) (by decide) rfl ?e1 rfl ?e2 ?e3 1 ?e4 ?_)
     case e1=>exact HG2.out.row
     case e2=>exact zey _ 0 (by rw[HOU.out];rfl) _ rfl _ _
     intro p3 cap3 w3 ha3;have HG3:=za (xc.app HG2.out ha3);clear ha3;go_wp2
     go_roundw
     case rel=>exact⟨1,HK0.out,by go_num,by rw[show(1:Nat)=out.length+1 by omega,HS.out,HIN.out,List.append_assoc];simpa[hz] using HG3.out.up HGC.out⟩
     case measure=>have:=HK0.out;simp[intOf];omega
    ·skip
     go_wp2_with (at_builtin;refine xr (l:=out.take co ++ [z]) (m:=out.drop co) _ rfl (.tmp 43) (.tmp 46) 139 rfl jq zfi i0 _ 24 Tryz.underlying139 hi hz0 hz1 hz2 rfl (by decide) (by decide) rfl ?f1 rfl ?f2 ?f3 (out.length+1) ?f4 ?_)
     case f1=>exact HG2.out.row
     case f2=>exact zey out _ (List.drop_eq_nil_of_le (by omega)) _ (by omega) _ _
     case f3=>have:=HHS.out;first|omega|(simp;omega)
     case f4=>have:=HHS.out;first|omega|(simp;omega)
     intro p3 cap3 w3 ha3;have HG3:=za (xc.app HG2.out ha3);clear ha3;go_wp2
     go_roundw
     case rel=>exact⟨out.length+1,HK.out,by go_num,by rw[HS.out,HIN.out,List.append_assoc];exact HG3.out.up HGC.out⟩
     case measure=>have:=HK.out;simp[intOf];omega
    ·skip
     go_wp2_with (at_builtin;refine xr (l:=out.take s ++ [z]) (m:=out.drop s) _ rfl (.tmp 43) (.tmp 46) 139 rfl jq zfi i0 _ 24 Tryz.underlying139 hi hz0 hz1 hz2 rfl (by decide) (by decide) rfl ?g1 rfl ?g2 ?g3 (out.length+1) ?g4 ?_)
     case g1=>exact HG2.out.row
     case g2=>exact zjv jq HO2.out s hs _ (by omega) _ (by omega) _
     case g3=>have:=HHS.out;first|omega|(simp;omega)
     case g4=>have:=HHS.out;first|omega|(simp;omega)
     intro p3 cap3 w3 ha3;have HG3:=za (xc.app HG2.out ha3);clear ha3;go_wp2
     go_roundw
     case rel=>exact⟨out.length+1,HK.out,by go_num,by rw[HS.out,HIN.out,List.append_assoc];exact HG3.out.up HGC.out⟩
     case measure=>have:=HK.out;simp[intOf];omega
  ·obtain rfl:k=l.length:=by omega
   have HK:Hid (zdm l l.length=Qr l):=(show _=_ from zuh l _ (Nat.le_refl _))
   have HGR:=za hgr;clear hgr;go_wp2
   go_ret
   exact⟨_,rfl,by rw[←HK.out];exact HGR.out⟩
end
theorem zrd {α β:Type} (f:α→β) (l:List α) (k:Nat) (hk:k<l.length):(l.take (k+1)).map f=(l.take k).map f ++ [f l[k]]:=by
 rw[List.take_succ_eq_append_getElem hk,List.map_append];rfl
def idV (v:ByteArray × Val):ID:=⟨v.1,v.2.zvz⟩
def Qo (v:ByteArray × Val):Bool:=!v.2.dead
section
variable {bs : Nat → Prop} {W : World} {rb : Nat} {R : yp}
set_option maxRecDepth 100000 in
theorem zk4 (h:RAt bs W rb R) (hl:R.zv1.length≤1000000):Calls Tryz.prog 148 #[.pointer (some ⟨rb,0,none⟩)] W fun e w'=>∃v,e = .returned v∧xc W 59 2 ya v (Qz R) w':=by
 obtain⟨vL,vC,vV,vP,vH,h⟩:=h.mem;have HV:Hid (Qz R=Qr (R.zv1.map (·.1))):=(show _=_ from rfl)
 generalize Qz R=res at *;obtain⟨i0,hi,hz0,hz1,hz2⟩:=info_parts zf9;have HR:=za h;clear h
 go_enter Tryz.func148,Tryz.ntmps148
 go_wp2
 go_loopw [3,4] (fun lv x wr=>∃k:Nat,k≤R.zv1.length∧x = .int .i64 k∧xc W 59 2 ya lv ((R.zv1.take k).map (·.1)) wr) (fun _ x _=>R.zv1.length-(intOf x).toNat)
 case atStart=>exact⟨0,Nat.zero_le _,rfl,by simpa using xc.start W 59 2 ya⟩
 case round=>
  obtain⟨k,hk,rfl,hgr⟩:=hrel;have hR:=HR.out.grown hgr.grown;obtain⟨p,cap,hv,hcap,hlc⟩:=hR.zv1.form;have c7:=hR.c7;rw[hv] at c7;have hql:((R.zv1.take k).map (·.1)).length=k:=by rw[List.length_map,List.length_take];omega
  obtain⟨pl,cl,rfl,-,-⟩:=hgr.row.form;have HGR:=za hgr;have hrb:=hR.lt
  by_cases hlt:k<R.zv1.length
  ·obtain⟨g,cap',hv',hc,hfz⟩:=(hR.zv1.at zeh).resolve_left (fun e=>by rw[e] at hlt;simp at hlt)
   rw[hv] at hv'
   injection hv' with hv1 hv2 hv3
   subst hv1;have e0:wr.cell? ⟨g,k*4,none⟩=some (.string R.zv1[k].1.key):=hc k hlt 0 _ rfl;have e1:wr.cell? ⟨g,k*4+1,none⟩=some (.int .i64 R.zv1[k].1.zvz):=hc k hlt 1 _ rfl;have HK:Hid ((R.zv1.take (k+1)).map (·.1)=(R.zv1.take k).map (·.1) ++ [R.zv1[k].1]):=(show _=_ from zrd _ _ _ hlt)
   have HQL:=za hql;clear hR hgr hv hv2 hv3 hc hfz;generalize (R.zv1.take k).map (·.1)=q at *
   generalize R.zv1[k].1=z at *;rw[hql];clear hql
   go_wp2_with (at_builtin;refine xr (l:=q) (m:=[z]) _ rfl (.tmp 14) (.tmp 23) 139 rfl jq zfi i0 _ 24 Tryz.underlying139 hi hz0 hz1 hz2 rfl (by decide) (by decide) rfl ?a1 rfl ?a2 ?a3 (k+1) ?a4 ?_)
   case a1=>rw[←HQL.out];exact(xc.more HGR.out (zg (zd _) _)).row
   case a2=>exact Zw z (heap_alloc_new _ _)
   case a3=>rw[HQL.out];simp;omega
   case a4=>rw[HQL.out];simp
   intro p' c' w3 ha;have HA:=za (xc.app (by rw[←HQL.out];exact xc.more HGR.out (zg (zd _) _)) ha)
   clear ha;go_wp2
   go_roundw
   case rel=>exact⟨k+1,by omega,by go_num,by rw[HK.out];exact HA.out⟩
   case measure=>simp[intOf];omega
  ·obtain rfl:k=R.zv1.length:=by omega
   have HQ:Hid ((R.zv1.take R.zv1.length).map (·.1)=R.zv1.map (·.1)):=(show _=_ from by rw[List.take_length])
   rw[hql] at HGR ⊢;clear hR hgr hv;have HQL:=za hql;clear hql;generalize (R.zv1.take R.zv1.length).map (·.1)=q at *
   go_wp2_with (go_at_call 176;refine(zfo HGR.out.row (by rw[HQL.out];exact hl)).mono ?_;rintro e w4 ⟨v',rfl,hs⟩;have HS:=za hs;clear hs)
   go_ret
   exact⟨_,rfl,by rw[HV.out,←HQ.out];exact HS.out.up HGR.out.grown⟩
set_option maxRecDepth 100000 in
theorem zdq (h:RAt bs W rb R) (hl:R.vals.length≤1000000):Calls Tryz.prog 137 #[.pointer (some ⟨rb,0,none⟩)] W fun e w'=>∃v,e = .returned v∧xc W 59 2 ya v (uo R) w':=by
 obtain⟨vL,vC,vV,vP,vH,h⟩:=h.mem;have HV:Hid (uo R=Qr ((R.vals.filter Qo).map idV)):=(show _=_ from rfl)
 generalize uo R=res at *;obtain⟨i0,hi,hz0,hz1,hz2⟩:=info_parts zf9;have HR:=za h;clear h
 go_enter Tryz.func137,Tryz.ntmps137
 go_wp2
 go_loopw [3,4] (fun lv x wr=>∃k:Nat,k≤R.vals.length∧x = .int .i64 k∧xc W 59 2 ya lv ((xf Qo R.vals k).map idV) wr) (fun _ x _=>R.vals.length-(intOf x).toNat)
 case atStart=>exact⟨0,Nat.zero_le _,rfl,by rw[Uv];exact xc.start W 59 2 ya⟩
 case round=>
  obtain⟨k,hk,rfl,hgr⟩:=hrel;have hR:=HR.out.grown hgr.grown;obtain⟨p,cap,hv,hcap,hlc⟩:=hR.vals.form;have c6:=hR.c6;rw[hv] at c6;have hql:((xf Qo R.vals k).map idV).length≤1000000:=by rw[List.length_map];exact Nat.le_trans (Jk _ _ _) hl
  obtain⟨pl,cl,rfl,-,-⟩:=hgr.row.form;have HGR:=za hgr;have hrb:=hR.lt
  by_cases hlt:k<R.vals.length
  ·obtain⟨g,cap',hv',hc,hfz⟩:=(hR.vals.at lenV).resolve_left (fun e=>by rw[e] at hlt;simp at hlt)
   rw[hv] at hv'
   injection hv' with hv1 hv2 hv3
   subst hv1;have e0:wr.cell? ⟨g,k*3,none⟩=some (.string R.vals[k].1):=hc k hlt 0 _ rfl;have e1:wr.cell? ⟨g,k*3+1,none⟩=some (.int .i64 R.vals[k].2.zvz):=hc k hlt 1 _ rfl;have e2:wr.cell? ⟨g,k*3+2,none⟩=some (.bool R.vals[k].2.dead):=hc k hlt 2 _ rfl;have lg:=yo e0
   cases hd:R.vals[k].2.dead with
   | true=>
    rw[hd] at e2;have HK:Hid (xf Qo R.vals (k+1)=xf Qo R.vals k):=(show _=_ from Uu _ _ _ hlt (by simp[Qo,hd]))
    clear hR hgr hv hv2 hv3 hc hfz hd hql;generalize R.vals[k]=z at *;generalize xf Qo R.vals k=q at *;go_wp2
    go_roundw
    case rel=>exact⟨k+1,by omega,by go_num,by rw[HK.out];exact HGR.out⟩
    case measure=>simp[intOf];omega
   | false=>
    rw[hd] at e2;have HK:Hid ((xf Qo R.vals (k+1)).map idV=(xf Qo R.vals k).map idV ++ [⟨R.vals[k].1,R.vals[k].2.zvz⟩]):=(show _=_ from by rw[Uk _ _ _ hlt (by simp[Qo,hd]),List.map_append];rfl)
    clear hR hgr hv hv2 hv3 hc hfz hd;generalize R.vals[k].1=zk at *;generalize R.vals[k].2.zvz=zv at *;generalize (xf Qo R.vals k).map idV=q at *;have HQL:=za hql;clear hql;generalize hqn:q.length=n at *;have HQN:=za hqn;clear hqn
    go_upto_region 6 with fail
    have hq1:(q ++ [(⟨zk,zv⟩:ID)]).length=n+1:=by have:=HQN.out;simp;omega
    have hq2:q.length + [(⟨zk,zv⟩:ID)].length≤1000000000:=by have:=HQL.out;have:=HQN.out;simp;omega
    have HQ1:=za hq1;have HQ2:=za hq2;clear hq1 hq2
    go_region_law (refine Jw rfl _ _ 139 rfl jq zfi i0 _ 24 Tryz.underlying139 hi hz0 hz1 hz2 rfl (by decide) (by decide) (l:=q) (m:=[(⟨zk,zv⟩:ID)]) rfl (xc.more HGR.out (by repeat (first|exact zd _|refine zg ?_ _|refine zf ?_))).row rfl (Zw (⟨zk,zv⟩:ID) (heap_alloc_new _ _)) HQ2.out (n+1) (by rw[←List.length_append];exact HQ1.out) ?_;intro p' c' w3 ha;have HA:=za (xc.app (xc.more HGR.out (by repeat (first|exact zd _|refine zg ?_ _|refine zf ?_))) ha);clear ha)
    all_goals
     go_wp2
     go_roundw
     case rel=>exact⟨k+1,by omega,by go_num,by rw[HK.out];exact HA.out⟩
     case measure=>simp[intOf];omega
  ·obtain rfl:k=R.vals.length:=by omega
   have HQ:Hid (xf Qo R.vals R.vals.length=R.vals.filter Qo):=(show _=_ from Jj _ _ _ (Nat.le_refl _))
   generalize hqn:((xf Qo R.vals R.vals.length).map idV).length=n at *;have HQN:=za hqn;clear hR hgr hv hqn
   go_wp2_with (go_at_call 176;refine(zfo HGR.out.row (by rw[HQN.out];exact hql)).mono ?_;rintro e w4 ⟨v',rfl,hs⟩;have HS:=za hs;clear hs)
   go_ret
   exact⟨_,rfl,by rw[HV.out,←HQ.out];exact HS.out.up HGR.out.grown⟩
end
section
variable {bs : Nat → Prop} {W : World} {rb : Nat} {R : yp}
theorem zhp (R:yp) (n:Int) (h:n<0∨R.N≤n∨ui R n=0):Ua R n = []:=by unfold Ua;rw[if_pos h]
theorem zsb (R:yp) (n:Int) (h:¬(n<0∨R.N≤n∨ui R n=0)):Ua R n=(uo R).filter (Zi R n):=by unfold Ua;rw[if_neg h]
theorem zm9 (R:yp):(uo R).length≤R.vals.length:=by
 unfold uo;rw[zbw,List.length_map]
 exact List.length_filter_le _ _
theorem zeb {α:Type} (W:World) (E:TypeId) (sz:Nat) (enc:α→List Value) {l:List α} (h:l = []) {w:World} (hg:W.grownBy w none):xc W E sz enc (.slice none 0 0) l w:=by
 subst h;exact(xc.start W E sz enc).more hg
set_option maxRecDepth 100000 in
theorem zk3 (h:RAt bs W rb R) (n:Int) (hl:R.vals.length≤1000000) (hN:R.N=R.zv0.length) (hll:R.zv0.length≤1000000):Calls Tryz.prog 150 #[.pointer (some ⟨rb,0,none⟩),.int .i64 n] W fun e w'=>∃v,e = .returned v∧xc W 59 2 ya v (Ua R n) w':=by
 obtain⟨i0,hi,hz0,hz1,hz2⟩:=info_parts zf9;have c0:=h.c0;have hrb:=h.lt
 by_cases h0:n<0
 ·have HM:=za (zhp R n (Or.inl h0))
  clear h c0
  go_enter Tryz.func150,Tryz.ntmps150
  go_wp2
  go_ret
  exact⟨_,rfl,zeb _ _ _ _ HM.out (zd _)⟩
 ·by_cases h1:R.N≤n
  ·have HM:=za (zhp R n (Or.inr (Or.inl h1)))
   clear h
   go_enter Tryz.func150,Tryz.ntmps150
   go_wp2
   go_ret
   exact⟨_,rfl,zeb _ _ _ _ HM.out (zd _)⟩
  ·obtain⟨a,rfl⟩:=Int.eq_ofNat_of_zero_le (show 0≤n by omega)
   have ha:a<R.zv0.length:=by omega
   obtain⟨gL,capL,c4,cl,-,hcl1,hcl2⟩:=h.live ha;have hlv:ui R (a:Int)=R.zv0.getD a 0:=rfl;have HMY:=za (zsb R (a:Int));have HMN:=za (zhp R (a:Int));rw[hlv] at HMY HMN;generalize R.zv0.getD a 0=lv at *;have HN:=za hN;have HH:=za h;have hNa:(a:Int)<R.N:=by omega
   generalize R.zv0.length=nl at *;generalize R.N=N at *;have HLT:Hid (¬N≤(a:Int)):=(show ¬_ from h1)
   have HL:=za hl;have hd0:decide ((a:Int)<0)=false:=by simp
   have hd1:decide (N≤(a:Int))=false:=by simp;omega
   clear h hlv h0 h1 hN hl
   by_cases hz:lv=0
   ·have HM:=za (HMN.out (Or.inr (Or.inr hz)))
    subst hz
    go_enter Tryz.func150,Tryz.ntmps150
    go_wp2
    go_ret
    exact⟨_,rfl,zeb _ _ _ _ HM.out (zd _)⟩
   ·have HM:=za (HMY.out (by have:=HLT.out;omega))
    have hd2:(lv == 0)=false:=by simpa using hz
    generalize Ua R (a:Int)=res at *;clear HMY HMN
    go_enter Tryz.func150,Tryz.ntmps150
    go_upto_region 4 with (go_at_call 137;refine(zdq HH.out HL.out).mono ?_;rintro e w1 ⟨va,rfl,hs⟩;have HS:=za hs;clear hs)
    clear c0 c4 cl;obtain⟨pa,ca,rfl,hca,hla⟩:=HS.out.row.form;go_wp2
    go_loopw [6,7] (fun lv x wr=>∃k:Nat,k≤(uo R).length∧x = .int .i64 k∧xc w1 59 2 ya lv (xf (Zi R a) (uo R) k) wr) (fun _ x _=>(uo R).length-(intOf x).toNat)
    case atStart=>exact⟨0,Nat.zero_le _,rfl,by rw[Uv];exact xc.start w1 59 2 ya⟩
    case round=>
     obtain⟨k,hk,rfl,hgr⟩:=hrel;have hkl:=Jk (Zi R a) (uo R) k;obtain⟨pl,cl,rfl,-,-⟩:=hgr.row.form;have HGR:=za hgr;have hlen:(uo R).length≤1000000:=Nat.le_trans (zm9 R) HL.out
     by_cases hlt:k<(uo R).length
     ·obtain⟨g,cap',hv',hc,hfz⟩:=((HS.out.row.grown hgr.grown (by simp)).at jq).resolve_left (fun e=>by rw[e] at hlt;simp at hlt)
      injection hv' with hv1 hv2 hv3
      subst hv1;have e0:wr.cell? ⟨g,k*2,none⟩=some (.string (uo R)[k].key):=hc k hlt 0 _ rfl;have e1:wr.cell? ⟨g,k*2+1,none⟩=some (.int .i64 (uo R)[k].zvz):=hc k hlt 1 _ rfl;have hR:=HH.out.grown (ze HS.out.grown hgr.grown);have HHE:Hid (Calls Tryz.prog 139 #[.pointer (some ⟨rb,0,none⟩),.agg #[.string (uo R)[k].key,.int .i64 (uo R)[k].zvz],.int .i64 (a:Int)] wr fun e w'=>e = .returned (.bool (Yy R (uo R)[k] (a:Int)))∧wr.grownBy w' none):=(show Calls _ _ _ _ _ from zje hR (uo R)[k] a)
      clear hR hc hgr hv2 hv3
      cases hh:Yy R (uo R)[k] (a:Int) with
      | true=>
       rw[hh] at HHE;have HK:Hid (xf (Zi R a) (uo R) (k+1)=xf (Zi R a) (uo R) k):=(show _=_ from Uu _ _ _ hlt (by simp[Zi,hh]))
       clear hh
       go_wp2_with (go_at_call 139;refine HHE.out.mono ?_;rintro e w2 ⟨rfl,hg⟩;have HG1:=za hg;clear hg)
       go_roundw
       case rel=>exact⟨k+1,by omega,by go_num,by rw[HK.out];exact HGR.out.more HG1.out⟩
       case measure=>simp[intOf];omega
      | false=>
       rw[hh] at HHE;have HK:Hid (xf (Zi R a) (uo R) (k+1)=xf (Zi R a) (uo R) k ++ [(uo R)[k]]):=(show _=_ from Uk _ _ _ hlt (by simp[Zi,hh]))
       clear hh;generalize xf (Zi R a) (uo R) k=q at *;generalize (uo R)[k]=z at *;have E0:=za e0;have E1:=za e1
       go_upto_region 9 with (go_at_call 139;refine HHE.out.mono ?_;rintro e w2 ⟨rfl,hg⟩;have HG1:=za hg;clear hg)
       have e0:w2.cell? ⟨g,k*2,none⟩=some (.string z.key):=HG1.out.cell E0.out (by simp)
       have e1:w2.cell? ⟨g,k*2+1,none⟩=some (.int .i64 z.zvz):=HG1.out.cell E1.out (by simp)
       go_wp2_with (at_builtin;refine xr (l:=q) (m:=[z]) _ rfl (.tmp 44) (.tmp 49) 139 rfl jq zfi i0 _ 24 Tryz.underlying139 hi hz0 hz1 hz2 rfl (by decide) (by decide) rfl ?a1 rfl ?a2 ?a3 (q.length+1) ?a4 ?_)
       case a1=>exact(xc.more HGR.out (zg HG1.out _)).row
       case a2=>exact Zw z (heap_alloc_new _ _)
       case a3=>simp;omega
       case a4=>simp
       intro p' c' w3 ha;have HA:=za (xc.app (xc.more HGR.out (zg HG1.out _)) ha);clear ha;go_wp2
       go_roundw
       case rel=>exact⟨k+1,by omega,by go_num,by rw[HK.out];exact HA.out⟩
       case measure=>simp[intOf];omega
     ·obtain rfl:k=(uo R).length:=by omega
      have HQ:Hid (xf (Zi R a) (uo R) (uo R).length=(uo R).filter (Zi R a)):=(show _=_ from Jj _ _ _ (Nat.le_refl _))
      generalize hqn:xf (Zi R a) (uo R) (uo R).length=q at *;clear hgr;go_wp2
      go_ret
      exact⟨_,rfl,by rw[HM.out,←HQ.out];exact HGR.out.up HS.out.grown⟩
end
end Go.Proofs.YtjfelfjobeeenaaGreat
