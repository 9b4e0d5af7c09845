/- The document's table: clean: the walk. Conditions: none, or as the theorems say. -/
import Derived.Test.YtjfelfjobeeenaaGreatN25
namespace Go.Proofs.YtjfelfjobeeenaaGreat
set_option maxHeartbeats 200000000
set_option linter.unusedVariables false
set_option linter.unusedSimpArgs false
open Go.RowKit Go.Sf Go.Shelf
theorem ze9 (w:World) (o:Obj) (n:Nat) (h:n=w.heap.size):(w.alloc o).heap[n]? = some o:=by subst h;exact heap_alloc_new _ _
theorem zgi (x:ue):(za7 x).toArray = #[.string x.id.key,.int .i64 x.id.zvz,.int .i64 x.node,.int .i64 x.zvx,.bool x.ref]:=rfl
section
variable {bs : Nat → Prop} {W : World} {rb : Nat} {R : yp}
set_option maxRecDepth 100000 in
theorem qc (h:RAt bs W rb R) (hbs:∀k,W.heap.size≤k→bs k) (hnd:∀x∈R.holds,0≤x.node∧x.node<(R.zv0.length:Int)) (hl:R.holds.length≤100000000) (hll:R.zv0.length≤1000000):Calls Tryz.prog 123 #[.pointer (some ⟨rb,0,none⟩)] W fun e w'=>e = .returned (.tuple #[])∧RAt bs w' rb (ve R)∧yc bs W w':=by
 obtain⟨vL,vC,vV,vP,vH,h,hb1,hb2,hb3,hb4,hb5,hb6⟩:=h;obtain⟨i0,hi,hz0,hz1,hz2⟩:=info_parts infoH;obtain⟨p,cap,rfl,hcap,hlc⟩:=h.holds.form;obtain⟨pL,capL,rfl,hcapL,hlcL⟩:=h.zv0.form;have HBS:=za (show jy bs W rb (.slice pL R.zv0.length capL) vC vV vP (.slice p R.holds.length cap) from ⟨hb1,hb2,hb3,hb4,hb5,hb6,hbs⟩)
 clear hb1 hb2 hb3 hb4 hb5 hb6 hbs;have HR:=za h;have HN:=za hnd;clear h hnd
 go_enter Tryz.func123,Tryz.ntmps123
 go_wp2
 go_loopw [2,3] (fun lv i wr=>∃k:Nat,k≤R.holds.length∧i = .int .i64 k∧xc W 197 5 za7 lv (xf (uz R) R.holds k) wr) (fun _ i _=>R.holds.length-(intOf i).toNat)
 case atStart=>exact⟨0,Nat.zero_le _,rfl,by rw[Uv];exact xc.start _ _ _ _⟩
 case round=>
  obtain⟨k,hk,rfl,hgr⟩:=hrel;have hR:=HR.out.grown hgr.grown;have hkl:=Jk (uz R) R.holds k;obtain⟨pl,cl,rfl,-,-⟩:=hgr.row.form;have HGR:=za hgr;have c8:=hR.c8;have z8:=hR.free 8;have hrb:=hR.lt;clear hgr
  by_cases hlt:k<R.holds.length
  ·obtain⟨g,cap',hv',hc,hfz⟩:=(hR.holds.at zkk).resolve_left (fun e=>by rw[e] at hlt;simp at hlt)
   injection hv' with hv1 hv2 hv3
   subst hv1 hv3;have hnk:=HN.out R.holds[k] (List.getElem_mem hlt);obtain⟨a,ha⟩:=Int.eq_ofNat_of_zero_le hnk.1;have hal:a<R.zv0.length:=by omega
   obtain⟨gL,capL',hvL',hcL,hfzL⟩:=(hR.zv0.at lenI).resolve_left (fun e=>by rw[e] at hal;simp at hal)
   injection hvL' with hvL1 hvL2 hvL3
   subst hvL1 hvL3;have c4:=hR.c4;have f0:wr.cell? ⟨gL,a,none⟩=some (.int .i64 (R.zv0.getD a 0)):=by
    have:=hcL a hal 0 _ rfl;simp only[Nat.mul_one,Nat.add_zero] at this;rw[this];simp[List.getD,List.getElem?_eq_getElem hal]
   obtain⟨LV,hLV⟩:∃x,R.zv0.getD a 0=x:=⟨_,rfl⟩;rw[hLV] at f0;have e0:wr.cell? ⟨g,k*5,none⟩=some (.string R.holds[k].id.key):=hc k hlt 0 _ rfl;have e1:wr.cell? ⟨g,k*5+1,none⟩=some (.int .i64 R.holds[k].id.zvz):=hc k hlt 1 _ rfl;have e2:wr.cell? ⟨g,k*5+2,none⟩=some (.int .i64 a):=by rw[←ha];exact hc k hlt 2 _ rfl
   have e3:wr.cell? ⟨g,k*5+3,none⟩=some (.int .i64 R.holds[k].zvx):=hc k hlt 3 _ rfl;have e4:wr.cell? ⟨g,k*5+4,none⟩=some (.bool R.holds[k].ref):=hc k hlt 4 _ rfl;have hgl:g<wr.heap.size:=yo e0;have hgLl:gL<wr.heap.size:=yo f0;have HWT:Hid (∀W',wr.grownBy W' none→Calls Tryz.prog 115 #[.pointer (some ⟨rb,0,none⟩),.agg #[.string R.holds[k].id.key,.int .i64 R.holds[k].id.zvz]] W' fun e w'=>e = .returned (.bool (rwanted R R.holds[k].id))∧W'.grownBy w' none):=(show ∀_,_ from fun W' hg=>zdu (hR.grown hg) R.holds[k].id)
   have HPN:Hid (∀W',wr.grownBy W' none→Calls Tryz.prog 117 #[.pointer (some ⟨rb,0,none⟩),.agg #[.string R.holds[k].id.key,.int .i64 R.holds[k].id.zvz]] W' fun e w'=>e = .returned (.int .i64 (ug R R.holds[k].id))∧W'.grownBy w' none):=(show ∀_,_ from fun W' hg=>zcz (hR.grown hg) R.holds[k].id)
   have hpb:=zkv R R.holds[k].id;have hlf:ui R R.holds[k].node=LV:=by rw[←hLV];unfold ui;rw[ha];rfl
   clear hLV;have HLF:=za (And.intro hlf (And.intro hpb ha));clear hR hv2 hvL2 hc hfz hcL hfzL hnk hlf hpb ha
   cases hw:rwanted R R.holds[k].id with
   | false=>
    have HF:=za hw;rw[hw] at HWT;clear hw;have HK:Hid (xf (uz R) R.holds (k+1)=xf (uz R) R.holds k):=(show _=_ from Uu _ _ _ hlt (by simp[uz,HF.out]))
    go_wp2;refine zo (by kernel_rfl) (by kernel_rfl) ?_
    repeat (any_goals (first|go_big_quiet_step (((first|(go_at_call 115;exact zq (HWT.out _ (by repeat (first|exact zd _|exact zj _ _|refine zi ?_ _|refine zg ?_ _|refine zf ?_))))|(go_at_call 117;exact zq (HPN.out _ (by repeat (first|exact zd _|exact zj _ _|refine zi ?_ _|refine zg ?_ _|refine zf ?_)))))))|quiet_step (((first|(go_at_call 115;exact zq (HWT.out _ (by repeat (first|exact zd _|exact zj _ _|refine zi ?_ _|refine zg ?_ _|refine zf ?_))))|(go_at_call 117;exact zq (HPN.out _ (by repeat (first|exact zd _|exact zj _ _|refine zi ?_ _|refine zg ?_ _|refine zf ?_)))))))))
    refine wpQuiet_nil ?_;intro _ hw';obtain⟨xx,hw''⟩:=hw';subst hw'';go_wp2
    go_roundw
    case rel=>exact⟨k+1,by omega,by go_num,by rw[HK.out];exact HGR.out.more (by repeat (first|exact zd _|exact zj _ _|refine zi ?_ _|refine zg ?_ _|refine zf ?_))⟩
    case measure=>simp[intOf];omega
   | true=>
    rw[hw] at HWT
    by_cases hlv:LV=R.holds[k].zvx
    ·cases hrf:R.holds[k].ref with
     | false=>
      have HF:=za (show rwanted R R.holds[k].id=true∧ui R R.holds[k].node=R.holds[k].zvx∧R.holds[k].ref=false from ⟨hw,HLF.out.1.trans hlv,hrf⟩)
      rw[hrf] at e4;have hd:(LV == R.holds[k].zvx)=true:=by simpa using hlv
      clear hw hlv hrf;have HK:Hid (xf (uz R) R.holds (k+1)=xf (uz R) R.holds k ++ [R.holds[k]]):=(show _=_ from Uk _ _ _ hlt (by simp[uz,HF.out]))
      go_wp2;refine zo (by kernel_rfl) (by kernel_rfl) ?_
      repeat (any_goals (first|go_big_quiet_step (((first|(go_at_call 115;exact zq (HWT.out _ (by repeat (first|exact zd _|exact zj _ _|refine zi ?_ _|refine zg ?_ _|refine zf ?_))))|(go_at_call 117;exact zq (HPN.out _ (by repeat (first|exact zd _|exact zj _ _|refine zi ?_ _|refine zg ?_ _|refine zf ?_)))))))|quiet_step (((first|(go_at_call 115;exact zq (HWT.out _ (by repeat (first|exact zd _|exact zj _ _|refine zi ?_ _|refine zg ?_ _|refine zf ?_))))|(go_at_call 117;exact zq (HPN.out _ (by repeat (first|exact zd _|exact zj _ _|refine zi ?_ _|refine zg ?_ _|refine zf ?_)))))))))
      refine wpQuiet_nil ?_;intro _ hw';obtain⟨xx,hw''⟩:=hw';subst hw''
      go_wp2_with (at_builtin;refine xr (l:=xf (uz R) R.holds k) (m:=[R.holds[k]]) _ rfl (.tmp 50) (.tmp 52) 50 rfl zkk oneH i0 _ 48 Tryz.underlying50 hi hz0 hz1 hz2 rfl (by decide) (by decide) rfl ?a1 rfl ?b1 ?c1 _ rfl ?_)
      case a1=>exact(HGR.out.more (by repeat (first|exact zd _|exact zj _ _|refine zi ?_ _|refine zg ?_ _|refine zf ?_))).row
      case b1=>exact Zw R.holds[k] (by rw[zgi,HLF.out.2.2,(show R.holds[k].ref=false from by first|exact HF.out.2.2|exact HF.out.2.2.1)];exact ze9 _ _ _ (by simp[go_sem]))
      case c1=>simp only[List.length_cons,List.length_nil];omega
      intro p' c' w1 ha;have HAP:=za (xc.app (xc.more HGR.out (by repeat (first|exact zd _|exact zj _ _|refine zi ?_ _|refine zg ?_ _|refine zf ?_))) ha)
      clear ha;go_wp2
      go_roundw
      case rel=>exact⟨k+1,by omega,by go_num,by rw[HK.out];exact HAP.out⟩
      case measure=>simp[intOf];omega
     | true=>
      rw[hrf] at e4;have hd:(LV == R.holds[k].zvx)=true:=by simpa using hlv
      by_cases hp0:0≤ug R R.holds[k].id
      ·have HF:=za (show rwanted R R.holds[k].id=true∧ui R R.holds[k].node=R.holds[k].zvx∧R.holds[k].ref=true∧Qe R R.holds[k].id=true from ⟨hw,HLF.out.1.trans hlv,hrf,by rw[←HLF.out.2.1];simpa using hp0⟩)
       have hdp:decide (0≤ug R R.holds[k].id)=true:=by simpa using hp0
       clear hw hlv hrf;have HK:Hid (xf (uz R) R.holds (k+1)=xf (uz R) R.holds k ++ [R.holds[k]]):=(show _=_ from Uk _ _ _ hlt (by simp[uz,HF.out]))
       go_wp2;refine zo (by kernel_rfl) (by kernel_rfl) ?_
       repeat (any_goals (first|go_big_quiet_step (((first|(go_at_call 115;exact zq (HWT.out _ (by repeat (first|exact zd _|exact zj _ _|refine zi ?_ _|refine zg ?_ _|refine zf ?_))))|(go_at_call 117;exact zq (HPN.out _ (by repeat (first|exact zd _|exact zj _ _|refine zi ?_ _|refine zg ?_ _|refine zf ?_)))))))|quiet_step (((first|(go_at_call 115;exact zq (HWT.out _ (by repeat (first|exact zd _|exact zj _ _|refine zi ?_ _|refine zg ?_ _|refine zf ?_))))|(go_at_call 117;exact zq (HPN.out _ (by repeat (first|exact zd _|exact zj _ _|refine zi ?_ _|refine zg ?_ _|refine zf ?_)))))))))
       refine wpQuiet_nil ?_;intro _ hw';obtain⟨xx,hw''⟩:=hw';subst hw''
       go_wp2_with (at_builtin;refine xr (l:=xf (uz R) R.holds k) (m:=[R.holds[k]]) _ rfl (.tmp 50) (.tmp 52) 50 rfl zkk oneH i0 _ 48 Tryz.underlying50 hi hz0 hz1 hz2 rfl (by decide) (by decide) rfl ?a2 rfl ?b2 ?c2 _ rfl ?_)
       case a2=>exact(HGR.out.more (by repeat (first|exact zd _|exact zj _ _|refine zi ?_ _|refine zg ?_ _|refine zf ?_))).row
       case b2=>exact Zw R.holds[k] (by rw[zgi,HLF.out.2.2,(show R.holds[k].ref=true from by first|exact HF.out.2.2|exact HF.out.2.2.1)];exact ze9 _ _ _ (by simp[go_sem]))
       case c2=>simp only[List.length_cons,List.length_nil];omega
       intro p' c' w1 ha;have HAP:=za (xc.app (xc.more HGR.out (by repeat (first|exact zd _|exact zj _ _|refine zi ?_ _|refine zg ?_ _|refine zf ?_))) ha)
       clear ha;go_wp2
       go_roundw
       case rel=>exact⟨k+1,by omega,by go_num,by rw[HK.out];exact HAP.out⟩
       case measure=>simp[intOf];omega
      ·have HF:=za (show rwanted R R.holds[k].id=true∧ui R R.holds[k].node=R.holds[k].zvx∧R.holds[k].ref=true∧Qe R R.holds[k].id=false from ⟨hw,HLF.out.1.trans hlv,hrf,by rw[←HLF.out.2.1];simpa using hp0⟩)
       have hdp:decide (0≤ug R R.holds[k].id)=false:=by simpa using hp0
       clear hw hlv hrf;have HK:Hid (xf (uz R) R.holds (k+1)=xf (uz R) R.holds k):=(show _=_ from Uu _ _ _ hlt (by simp[uz,HF.out]))
       go_wp2;refine zo (by kernel_rfl) (by kernel_rfl) ?_
       repeat (any_goals (first|go_big_quiet_step (((first|(go_at_call 115;exact zq (HWT.out _ (by repeat (first|exact zd _|exact zj _ _|refine zi ?_ _|refine zg ?_ _|refine zf ?_))))|(go_at_call 117;exact zq (HPN.out _ (by repeat (first|exact zd _|exact zj _ _|refine zi ?_ _|refine zg ?_ _|refine zf ?_)))))))|quiet_step (((first|(go_at_call 115;exact zq (HWT.out _ (by repeat (first|exact zd _|exact zj _ _|refine zi ?_ _|refine zg ?_ _|refine zf ?_))))|(go_at_call 117;exact zq (HPN.out _ (by repeat (first|exact zd _|exact zj _ _|refine zi ?_ _|refine zg ?_ _|refine zf ?_)))))))))
       refine wpQuiet_nil ?_;intro _ hw';obtain⟨xx,hw''⟩:=hw';subst hw'';go_wp2
       go_roundw
       case rel=>exact⟨k+1,by omega,by go_num,by rw[HK.out];exact HGR.out.more (by repeat (first|exact zd _|exact zj _ _|refine zi ?_ _|refine zg ?_ _|refine zf ?_))⟩
       case measure=>simp[intOf];omega
    ·have HF:=za (show rwanted R R.holds[k].id=true∧¬ui R R.holds[k].node=R.holds[k].zvx from ⟨hw,by rw[HLF.out.1];exact hlv⟩)
     have hd:(LV == R.holds[k].zvx)=false:=by simpa using hlv
     clear hw hlv;have HK:Hid (xf (uz R) R.holds (k+1)=xf (uz R) R.holds k):=(show _=_ from Uu _ _ _ hlt (by simp[uz,HF.out]))
     go_wp2;refine zo (by kernel_rfl) (by kernel_rfl) ?_
     repeat (any_goals (first|go_big_quiet_step (((first|(go_at_call 115;exact zq (HWT.out _ (by repeat (first|exact zd _|exact zj _ _|refine zi ?_ _|refine zg ?_ _|refine zf ?_))))|(go_at_call 117;exact zq (HPN.out _ (by repeat (first|exact zd _|exact zj _ _|refine zi ?_ _|refine zg ?_ _|refine zf ?_)))))))|quiet_step (((first|(go_at_call 115;exact zq (HWT.out _ (by repeat (first|exact zd _|exact zj _ _|refine zi ?_ _|refine zg ?_ _|refine zf ?_))))|(go_at_call 117;exact zq (HPN.out _ (by repeat (first|exact zd _|exact zj _ _|refine zi ?_ _|refine zg ?_ _|refine zf ?_)))))))))
     refine wpQuiet_nil ?_;intro _ hw';obtain⟨xx,hw''⟩:=hw';subst hw'';go_wp2
     go_roundw
     case rel=>exact⟨k+1,by omega,by go_num,by rw[HK.out];exact HGR.out.more (by repeat (first|exact zd _|exact zj _ _|refine zi ?_ _|refine zg ?_ _|refine zf ?_))⟩
     case measure=>simp[intOf];omega
  ·have hge:R.holds.length≤k:=by omega
   have HK:Hid (xf (uz R) R.holds k=(ve R).holds):=(show _=_ from by rw[Jj _ _ _ hge];rfl)
   clear hR hge;go_wp2
   first|go_end0|refine bodyPost_ret (results_none rfl _ _ _) rfl ?_
   refine⟨rfl,?_⟩;have hN:=RAt.newH (W0:=W) (zd _) HBS.out HR.out HGR.out.grown HGR.out.row HGR.out.own;rw[show ve R = { R with holds:=xf (uz R) R.holds k } from by rw[HK.out];rfl]
   exact hN
end
theorem zhh {bs:Nat→Prop} {W:World} {rb:Nat} {R:yp} (h:RAt bs W rb R) (n:Int):Calls Tryz.prog 146 #[.pointer (some ⟨rb,0,none⟩),.int .i64 n] W fun e w'=>e = .returned (jb n (je R n))∧W.grownBy w' none:=by
 obtain⟨vL,vC,vV,vP,vH,h1,_⟩:=h
 exact zo7 h1 n
theorem zjk {bs:Nat→Prop} {W:World} {rb:Nat} {R:yp} (h:RAt bs W rb R) (n:ByteArray):Calls Tryz.prog 120 #[.pointer (some ⟨rb,0,none⟩),.string n] W fun e w'=>e = .returned (Zv n (qo R n))∧W.grownBy w' none:=by
 obtain⟨vL,vC,vV,vP,vH,h1,_⟩:=h
 exact zfp h1 n
theorem Vl {bs:Nat→Prop} {W:World} {rb:Nat} {R:yp} (h:RAt bs W rb R) (i:ID):Calls Tryz.prog 115 #[.pointer (some ⟨rb,0,none⟩),zx i] W fun e w'=>e = .returned (.bool (rwanted R i))∧W.grownBy w' none:=by
 obtain⟨vL,vC,vV,vP,vH,h1,_⟩:=h
 exact zdu h1 i
theorem Xs {bs:Nat→Prop} {W:World} {rb:Nat} {R:yp} (h:RAt bs W rb R) (i:ID):Calls Tryz.prog 117 #[.pointer (some ⟨rb,0,none⟩),zx i] W fun e w'=>e = .returned (.int .i64 (ug R i))∧W.grownBy w' none:=by
 obtain⟨vL,vC,vV,vP,vH,h1,_⟩:=h
 exact zcz h1 i
theorem Js {bs:Nat→Prop} {W:World} {rb:Nat} {R:yp} (h:RAt bs W rb R) (i:ID) (b:Bool):Calls Tryz.prog 118 #[.pointer (some ⟨rb,0,none⟩),zx i,.bool b] W fun e w'=>e = .returned (.int .i64 (us R i b))∧W.grownBy w' none:=by
 obtain⟨vL,vC,vV,vP,vH,h1,_⟩:=h
 exact zm8 h1 i b
theorem yx {bs:Nat→Prop} {a b c:World} (h:yc bs a b) (g:b.grownBy c none):yc bs a c:=
 ⟨g.os.trans h.os,g.tape.trans h.tape,g.output.trans h.output,Nat.le_trans h.size g.size,fun k hk hn=>(g.block k (Nat.lt_of_lt_of_le hk h.size) (by simp)).trans (h.block k hk hn)⟩
theorem yj {bs:Nat→Prop} {a b c:World} (h:yc bs a b) (g:yc bs b c):yc bs a c:=
 ⟨g.os.trans h.os,g.tape.trans h.tape,g.output.trans h.output,Nat.le_trans h.size g.size,fun k hk hn=>(g.block k (Nat.lt_of_lt_of_le hk h.size) hn).trans (h.block k hk hn)⟩
theorem zhu {bs:Nat→Prop} {W w:World} {rb:Nat} {R:yp} (h:RAt bs W rb R) (hg:W.grownBy w none):RAt bs w rb R∧yc bs W w:=⟨h.grown hg,xn hg⟩
section
variable {bs : Nat → Prop} {W : World} {rb : Nat} {R : yp}
theorem rdone_t {i:ID} {p:xd} {code:Int} (h:(je R p.zvw).zvy=p.zvy∧(je R p.zvw).zvz=i.zvz):qx R i p code = { R with calls:=ym R.calls p.zvw ⟨(je R p.zvw).zvy,(je R p.zvw).zvz,true,code⟩ }:=if_pos h
theorem rdone_f {i:ID} {p:xd} {code:Int} (h:¬((je R p.zvw).zvy=p.zvy∧(je R p.zvw).zvz=i.zvz)):qx R i p code=R:=if_neg h
set_option maxRecDepth 100000 in
theorem zeq (h:RAt bs W rb R) (hbs:∀k,W.heap.size≤k→bs k) (i:ID) (p:xd) (code:Int) (hl:R.calls.length≤100000000):Calls Tryz.prog 122 #[.pointer (some ⟨rb,0,none⟩),Xm i p,.int .i64 code] W fun e w'=>e = .returned (.tuple #[])∧RAt bs w' rb (qx R i p code)∧yc bs W w':=by
 have HC:=za (fun W' (hg:W.grownBy W' none)=>zhh (h.grown hg) p.zvw)
 have HP:=za (fun W' (hg:W.grownBy W' none) (c:yz)=>zb8 (h.grown hg) (fun k hk=>hbs k (Nat.le_trans hg.size hk)) p.zvw c hl)
 have HA:=za h;have ht:=fun h=>rdone_t (R:=R) (i:=i) (p:=p) (code:=code) h
 have hf:=fun h=>rdone_f (R:=R) (i:=i) (p:=p) (code:=code) h
 clear h;generalize qx R i p code=R' at *;generalize je R p.zvw=v at *;obtain⟨vr,vv,vd,vc⟩:=v;simp only[jb,Xm] at HC HP ⊢;simp only at ht hf
 by_cases h1:vr=p.zvy
 ·by_cases h2:vv=i.zvz
  ·have HE:=za (ht ⟨h1,h2⟩)
   have q1:(vr == p.zvy)=true:=by simpa using h1
   have q2:(vv == i.zvz)=true:=by simpa using h2
   clear ht hf h1 h2
   go_enter Tryz.func122,Tryz.ntmps122
   go_wp2_with (first
    | (go_at_call 146;refine(HC.out _ (zc _ _ none)).mono ?_;rintro e w1 ⟨rfl,hg⟩;have hx:=(hg.block W.heap.size (by simp) (by simp)).trans (heap_alloc_new W _);have b0:=(zh hx 0).trans rfl;have b1:=(zh hx 1).trans rfl;have b2:=(zh hx 2).trans rfl;have b3:=(zh hx 3).trans rfl;have hwl:=(Array.getElem?_eq_some_iff.1 hx).1;have HG:=za (ze (zc W _ none) hg);clear hg hx)
    | (go_at_call 114;refine(HP.out _ (by repeat (first|exact HG.out|refine zg ?_ _|refine zf ?_)) ⟨vr,vv,true,code⟩).mono ?_;rintro e w2 ⟨rfl,hr,ht⟩;have HQ:=za (And.intro hr ht);clear hr ht))
   first|go_end0|refine bodyPost_ret (results_none rfl _ _ _) rfl ?_
   refine⟨rfl,?_⟩;rw[HE.out]
   exact⟨HQ.out.1,Zp (by repeat (first|exact HG.out|refine zg ?_ _|refine zf ?_)) HQ.out.2⟩
  ·have HE:=za (hf fun h=>h2 h.2)
   have q1:(vr == p.zvy)=true:=by simpa using h1
   have q2:(vv == i.zvz)=false:=by simpa using h2
   clear ht hf h1 h2
   go_enter Tryz.func122,Tryz.ntmps122
   go_wp2_with (go_at_call 146;refine(HC.out _ (zc _ _ none)).mono ?_;rintro e w1 ⟨rfl,hg⟩;have hx:=(hg.block W.heap.size (by simp) (by simp)).trans (heap_alloc_new W _);have b0:=(zh hx 0).trans rfl;have b1:=(zh hx 1).trans rfl;have b2:=(zh hx 2).trans rfl;have b3:=(zh hx 3).trans rfl;have hwl:=(Array.getElem?_eq_some_iff.1 hx).1;have HG:=za (ze (zc W _ none) hg);clear hg hx)
   first|go_end0|refine bodyPost_ret (results_none rfl _ _ _) rfl ?_
   refine⟨rfl,?_⟩;rw[HE.out];refine zhu HA.out ?_
   repeat (first|exact HG.out|refine zg ?_ _|refine zf ?_)
 ·have HE:=za (hf fun h=>h1 h.1)
  have q1:(vr == p.zvy)=false:=by simpa using h1
  clear ht hf h1
  go_enter Tryz.func122,Tryz.ntmps122
  go_wp2_with (go_at_call 146;refine(HC.out _ (zc _ _ none)).mono ?_;rintro e w1 ⟨rfl,hg⟩;have hx:=(hg.block W.heap.size (by simp) (by simp)).trans (heap_alloc_new W _);have b0:=(zh hx 0).trans rfl;have b1:=(zh hx 1).trans rfl;have b2:=(zh hx 2).trans rfl;have b3:=(zh hx 3).trans rfl;have hwl:=(Array.getElem?_eq_some_iff.1 hx).1;have HG:=za (ze (zc W _ none) hg);clear hg hx)
  first|go_end0|refine bodyPost_ret (results_none rfl _ _ _) rfl ?_
  refine⟨rfl,?_⟩;rw[HE.out];refine zhu HA.out ?_
  repeat (first|exact HG.out|refine zg ?_ _|refine zf ?_)
theorem zpx {W w:World} {a0 a1 a2 a3 a4 a5 a6 a7:Value} {t:TypeId} (h:(W.alloc (.cells #[a0,a1,a2,a3,a4,a5,a6,a7] t)).grownBy w none) :
  w.cell? ⟨W.heap.size,0,none⟩=some a0∧w.cell? ⟨W.heap.size,1,none⟩=some a1∧w.cell? ⟨W.heap.size,2,none⟩=some a2∧w.cell? ⟨W.heap.size,3,none⟩=some a3∧w.cell? ⟨W.heap.size,4,none⟩=some a4∧w.cell? ⟨W.heap.size,5,none⟩=some a5∧w.cell? ⟨W.heap.size,6,none⟩=some a6∧w.cell? ⟨W.heap.size,7,none⟩=some a7:=by
 have e:=(h.block W.heap.size (by simp) (by simp)).trans (heap_alloc_new W _)
 refine⟨?_,?_,?_,?_,?_,?_,?_,?_⟩ <;> simp[World.cell?,e]
def qf (R:yp) (c:Cmd):yp:=if vq R c=true then xp R c else R
theorem zlw {α:Type} {f:α→Bool} {l:List α} {k:Nat} (h:Ze f l k) (hk:l.length≤k):l.eraseP f=l:=
 List.eraseP_of_forall_not fun x hx=>by
  obtain⟨j,hj,rfl⟩:=List.getElem_of_mem hx;simp[h j hj (Nat.lt_of_lt_of_le hj hk)]
set_option maxRecDepth 100000 in
theorem Xf (h:RAt bs W rb R) (hbs:∀k,W.heap.size≤k→bs k) (c:Cmd) (hl:R.zv1.length≤100000000):Calls Tryz.prog 113 #[.pointer (some ⟨rb,0,none⟩),zp c] W fun e w'=>e = .returned (.bool (vq R c))∧RAt bs w' rb (qf R c)∧yc bs W w':=by
 have HC:=za (fun W' (hg:W.grownBy W' none)=>zhh (h.grown hg) c.zvw)
 have HE:=za (fun W' (hg:W.grownBy W' none) k hk=>zb5 (h.grown hg) (fun k hk=>hbs k (Nat.le_trans hg.size hk)) k hk hl)
 have HA:=za h;obtain⟨vL,vC,vV,vP,vH,hm,hrest⟩:=h;have HM:=za hm;have hB:vq R c=decide ((je R c.zvw).zvy<c.zvy):=rfl;have ht:vq R c=true→qf R c=xp R c:=fun h=>if_pos h
 have hf:vq R c=false→qf R c=R:=fun h=>if_neg (by rw[h];decide)
 obtain⟨p,cap,rfl,hcap,hlc⟩:=hm.zv1.form;clear hm hrest;generalize qf R c=R' at *;generalize vq R c=B at *;generalize je R c.zvw=v at *;obtain⟨vr,vv,vd,vc⟩:=v;simp only[jb] at HC;simp only[zp];simp only at hB
 by_cases hlt0:vr<c.zvy
 ·have hd:decide (vr<c.zvy)=true:=by simpa using hlt0
  rw[hd] at hB;subst hB;have HT:=za (show R'=xp R c from ht rfl)
  have hnle:¬c.zvy≤vr:=by omega
  clear ht hf hd
  go_enter Tryz.func113,Tryz.ntmps113
  go_wp2_with (go_at_call 146;refine(HC.out _ (zc _ _ none)).mono ?_;rintro e w1 ⟨rfl,hg⟩;obtain⟨d0,d1,d2,d3,d4,d5,d6,d7⟩:=zpx hg;have hwl:W.heap.size<w1.heap.size:=(by have:=hg.size;simp at this;omega);have HG:=za (ze (zc W _ none) hg);clear hg)
  have HG3:=za (show W.grownBy (w1.alloc (.cells #[.int .i64 c.zvw,.int .i64 vr,.int .i64 vv,.bool vd,.int .i64 vc] 193)) none from zg HG.out _)
  have D2:Hid ((w1.alloc (.cells #[.int .i64 c.zvw,.int .i64 vr,.int .i64 vv,.bool vd,.int .i64 vc] 193)).cell? ⟨W.heap.size,2,none⟩=some (.int .i64 c.zvw)):=(show(w1.alloc (.cells #[.int .i64 c.zvw,.int .i64 vr,.int .i64 vv,.bool vd,.int .i64 vc] 193)).cell? ⟨W.heap.size,2,none⟩=some (.int .i64 c.zvw) from (zc w1 _ none).cell d2 (by simp))
  clear d0 d1 d2 d3 d4 d5 d6 d7;generalize w1.alloc (.cells #[.int .i64 c.zvw,.int .i64 vr,.int .i64 vv,.bool vd,.int .i64 vc] 193)=W3 at *
  go_loopw [6] (fun x wr=>∃k:Nat,k≤R.zv1.length∧x = .int .i64 k∧Ze (fun q:ID × xd=>decide (q.2.zvw=c.zvw)) R.zv1 k∧W3.grownBy wr none) (fun x _=>R.zv1.length-(intOf x).toNat)
  case atStart=>exact⟨0,Nat.zero_le _,rfl,Yv,zd _⟩
  case round=>
   obtain⟨k,hk,rfl,hno,hg2⟩:=hrel;have HG4:=za (ze HG3.out hg2);have hR:=HM.out.grown HG4.out;have c7:=hR.c7;have d2:=hg2.cell D2.out (by simp)
   have HNO:=za hno;clear hno
   by_cases hlt:k<R.zv1.length
   ·obtain⟨g,cap',hv',hc,hfz⟩:=(hR.zv1.at zeh).resolve_left (fun e=>by rw[e] at hlt;simp at hlt)
    injection hv' with hv1 hv2 hv3
    subst hv1 hv3;have e2:wr.cell? ⟨g,k*4+2,none⟩=some (.int .i64 R.zv1[k].2.zvw):=hc k hlt 2 _ rfl;clear hR hv2 hc hfz
    by_cases hi:R.zv1[k].2.zvw=c.zvw
    ·have hd:(R.zv1[k].2.zvw == c.zvw)=true:=by rw[hi];simp
     have HI:=za hi;have HLT:=za hlt;clear hi;go_wp2
     go_quiet (fail)
     go_wp2_with (go_at_call 119;refine(HE.out _ (ze HG4.out (zj _ _)) k HLT.out).mono ?_;rintro e w2 ⟨rfl,hr,ht⟩;have HQ:=za (And.intro hr ht);clear hr ht)
     go_ret
     refine⟨rfl,?_⟩;rw[HT.out];have he:(xp R c) = { R with zv1:=R.zv1.eraseIdx k }:=by
      unfold xp;rw[zd6 (k:=k) HNO.out HLT.out (by simpa using HI.out)]
     rw[he]
     exact⟨HQ.out.1,Zp (ze HG4.out (zj _ _)) HQ.out.2⟩
    ·have hd:(R.zv1[k].2.zvw == c.zvw)=false:=by simpa using hi
     have HI:=za hi;clear hi;go_wp2
     go_quiet (fail)
     go_wp2
     go_roundw
     case rel=>exact⟨k+1,by omega,by go_num,HNO.out.step hlt (by simpa using HI.out),ze hg2 (zj _ _)⟩
     case measure=>simp[intOf];omega
   ·have hge:R.zv1.length≤k:=by omega
    have HGE:=za hge;clear hR hge;go_wp2
    go_ret
    refine⟨rfl,?_⟩;rw[HT.out];have he:(xp R c)=R:=by
     unfold xp;rw[zlw HNO.out HGE.out]
    rw[he]
    exact⟨HA.out.grown HG4.out,xn HG4.out⟩
 ·have hd:decide (vr<c.zvy)=false:=by simpa using hlt0
  rw[hd] at hB;subst hB;have HT:=za (show R'=R from hf rfl)
  have hle:c.zvy≤vr:=by omega
  clear ht hf hd hlt0
  go_enter Tryz.func113,Tryz.ntmps113
  go_wp2_with (go_at_call 146;refine(HC.out _ (zc _ _ none)).mono ?_;rintro e w1 ⟨rfl,hg⟩;obtain⟨d0,d1,d2,d3,d4,d5,d6,d7⟩:=zpx hg;have hwl:W.heap.size<w1.heap.size:=(by have:=hg.size;simp at this;omega);have HG:=za (ze (zc W _ none) hg);clear hg)
  go_ret
  refine⟨rfl,?_⟩;rw[HT.out];refine zhu HA.out ?_
  repeat (first|exact HG.out|refine zg ?_ _|refine zf ?_)
end
end Go.Proofs.YtjfelfjobeeenaaGreat
