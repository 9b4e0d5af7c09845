/- Calls that came in; large(), bytes() of chapter 21: the walks (printed by gen_jc.py). Conditions: a row of calls in memory. same() of chapter 21: the walk; what stands between two calls. Conditions: as the theorems say. -/
import Derived.Test.YtbcbhlfjgobejaaGreatD29
import Derived.Test.YtbcbhlfjgobejaaGreatD37
set_option linter.unusedSimpArgs false
set_option linter.unusedVariables false
namespace Go.Proofs.YtbcbhlfjgobejaaGreat
open Go.RowKit Go.Sf
def LargeQ (w:World) (l:List CallM) (e:Ending) (w':World):Prop:=∃r,e = .returned (.bool r)∧w.grownBy w' none∧(r=false→l.length≤50∧∀x∈l,x.B.length≤5000∧x.F.length≤5000)
set_option maxHeartbeats 4000000 in
set_option maxRecDepth 100000 in
theorem large21_any (v:Value) (l:List CallM) (w:World) (h:CallRow w v l) :
  Calls Tryz.prog 55 #[v] w (LargeQ w l):=by
 obtain⟨p,cap,rfl,hlen,hok,hrow⟩:=h
 rcases Nat.lt_or_ge 50 l.length with h50|h50
 ·clear hrow hok
  go_enter Tryz.func55,Tryz.ntmps55
  go_wp2
  go_ret
  exact⟨true,rfl,grown_refl _,by simp⟩
 ·have HK:=Lib.hid hok
  have HR:=Lib.hid hrow
  have HLl:=Lib.hid (show l.length≤50 from h50)
  clear hok hrow
  have hnn:∃m,m=l.length:=⟨_,rfl⟩
  obtain⟨m,hn⟩:=hnn
  have HN:=Lib.hid hn
  rw[←hn] at h50 hlen ⊢
  clear hn
  go_enter Tryz.func55,Tryz.ntmps55
  go_wp2
  go_loopw [3,4] (fun s i wr=>w.grownBy wr none∧∃(j:Nat) (x:Int),j≤m∧i = .int .i64 j∧s = .int .i64 x∧0≤x∧x≤10000∧(∀c∈l.take j,c.B.length≤5000∧c.F.length≤5000)) (fun _ i _=>m-(intOf i).toNat)
  case atStart=>exact⟨grown_refl _,0,0,Nat.zero_le _,rfl,rfl,by omega,by omega,by simp⟩
  case round=>
   obtain⟨hg,j,x,hj,rfl,rfl,hx0,hx1,hall⟩:=hrel
   have HA:=Lib.hid hall
   clear hall
   rcases Nat.lt_or_ge j m with hlt|hge
   ·rcases HR.out with h0|⟨b,off,rfl,hc⟩
    ·exfalso;have:=HN.out;rw[h0] at this;simp at this;omega
    ·have hjl:j<l.length:=by rw[←HN.out];exact hlt
     have cB:=hg.cell (hc j hjl 1 _ rfl) (by simp)
     have cF:=hg.cell (hc j hjl 4 _ rfl) (by simp)
     have hbw:b<wr.heap.size:=cell_lt cB
     have hget:l.getD j callD=l[j]:=by simp[List.getD_eq_getElem?_getD,List.getElem?_eq_getElem hjl]
     have hkk:=HK.out l[j] (List.getElem_mem _)
     have htk:l.take (j+1)=l.take j ++ [l[j]]:=List.take_succ_eq_append_getElem hjl
     have HT:=Lib.hid htk
     rw[hget] at cB cF
     have hb:=hkk.bl
     have hf:=hkk.fl
     clear hc htk hkk hget
     have HG:=Lib.hid hg
     clear hg
     have HC:Hid (∀y∈l.take (j+1),y∈l.take j∨y=l[j]):=(fun y hy=>by
      rw[HT.out] at hy
      rcases List.mem_append.1 hy with h|h
      ·exact Or.inl h
      ·exact Or.inr (by simpa using h))
     generalize l[j]=c at *
     obtain⟨kind,B,bp,bc,times,n,F,fp,fc⟩:=c
     simp only at cB cF hb hf
     have HBl:=Lib.hid (show B.length=B.length from rfl)
     generalize hbn:B.length=bn at *
     generalize hfn:F.length=fn at *
     have HBN:=Lib.hid hbn
     have HFN:=Lib.hid hfn
     clear hbn hfn HBl
     by_cases hgt:5000-x<(bn:Int)
     ·go_wp2
      go_ret
      exact⟨true,rfl,HG.out,by simp⟩
     ·by_cases hgt2:5000-x<(fn:Int)
      ·go_wp2
       go_ret
       exact⟨true,rfl,HG.out,by simp⟩
      ·go_upto_region 9 with fail
       refine wp_region_quiet_ext (by kernel_rfl) (by kernel_rfl) ?_
       repeat (any_goals (first|go_big_quiet_step (fail)|quiet_step (fail)))
       refine wpQuiet_nil ?_
       intro _ hw'
       obtain⟨xx,hw''⟩:=hw'
       subst hw''
       have HG2:=Lib.hid (grown_ext' HG.out xx)
       generalize ext wr xx=w9 at *
       go_wp2
       refine⟨⟨HG2.out,j+1,x+bn+fn,by omega,by simp,by simp,by omega,by omega,fun y hy=>?_⟩,by simp[intOf];omega⟩
       rcases HC.out y hy with h|rfl
       ·exact HA.out y h
       ·exact⟨by show B.length≤5000;rw[HBN.out];omega,by show F.length≤5000;rw[HFN.out];omega⟩
   ·go_wp2
    go_ret
    refine⟨false,rfl,hg,fun _=>⟨HLl.out,?_⟩⟩
    have:=HA.out
    rw[List.take_of_length_le (by rw[←HN.out];omega)] at this
    exact this
def timesQ (n T:Nat):Nat:=min (T+1) (if n=0 then T+1 else 600 / n)
theorem timesQ_iff (n T k:Nat):k<timesQ n T↔k≤T∧k*n+n≤600:=by
 unfold timesQ
 rcases Nat.eq_zero_or_pos n with rfl|h
 ·simp;omega
 ·rw[if_neg (by omega)]
  have:k<600 / n↔k*n+n≤600:=by
   rw[Nat.lt_iff_add_one_le,Nat.le_div_iff_mul_le h,Nat.add_mul,Nat.one_mul]
  omega
def bytesQ (x:CallM):List Int:=repB x.B (timesQ x.B.length x.times.toNat)
theorem bytesQ_BL {W:World} {x:CallM} (h:CallOk W x):BL (bytesQ x):=repB_BL h.bb _
theorem bytesQ_len (x:CallM):(bytesQ x).length≤600:=by
 unfold bytesQ
 rw[repB_len]
 cases e:timesQ x.B.length x.times.toNat with
 | zero=>omega
 | succ k=>
  have:=(timesQ_iff x.B.length x.times.toNat k).1 (by omega)
  rw[Nat.add_mul,Nat.one_mul]
  exact this.2
set_option maxHeartbeats 4000000 in
set_option maxRecDepth 100000 in
theorem bytes21_any {W:World} {x:CallM} (h:CallOk W x) :
  Calls Tryz.prog 56 #[.agg (callCells x).toArray] W fun e w'=>e = .returned (.string (ofB (bytesQ x)))∧W.grownBy w' none:=by
 have HB:=Lib.hid h.b
 have hk:=h.k
 have ht:=h.t
 have hl:=h.bl
 have HE:Hid (bytesQ x=repB x.B (timesQ x.B.length x.times.toNat)):=(show _=_ from rfl)
 rw[HE.out]
 clear HE h
 obtain⟨kind,B,bp,bc,times,n,F,fp,fc⟩:=x
 obtain⟨T,rfl⟩:=Int.eq_ofNat_of_zero_le ht.1
 simp only[callCells] at *
 have hi:=timesQ_iff B.length T
 have HI:=Lib.hid hi
 have HL:Hid (∀k,(ofB (repB B k)).size=k*B.length):=(fun k=>by rw[ofB_size,repB_len])
 simp only[Int.toNat_natCast]
 clear hi
 generalize timesQ B.length T=M at *
 have hw1:=World.grownBy_alloc W (.cells #[.int .u8 kind,.slice bp B.length bc,.int .u8 (T:Int),.int .i64 n,.slice fp F.length fc] 86) none
 have hh1:=heap_alloc_new W (.cells #[.int .u8 kind,.slice bp B.length bc,.int .u8 (T:Int),.int .i64 n,.slice fp F.length fc] 86)
 have hcv:=conv_raw (HB.out.grown hw1 (by simp))
 have HW1:=Lib.hid hw1
 obtain⟨W1,hW1⟩:∃x,x=W.alloc (.cells #[.int .u8 kind,.slice bp B.length bc,.int .u8 (T:Int),.int .i64 n,.slice fp F.length fc] 86):=⟨_,rfl⟩
 have HHW:=Lib.hid hW1
 rw[←hW1] at hh1 hcv HW1
 clear hW1
 have d1:W1.cell? ⟨W.heap.size,1,none⟩=some (.slice bp B.length bc):=(cell_block hh1 1).trans rfl
 have d2:W1.cell? ⟨W.heap.size,2,none⟩=some (.int .u8 (T:Int)):=(cell_block hh1 2).trans rfl
 have HZ:Hid (∀k,ofB (repB B k)++ofB B=ofB (repB B (k+1))):=(fun k=>ofB_app _ _)
 have hz0:ofB (repB B 0)=⟨#[]⟩:=rfl
 have hbsz:(ofB B).size=B.length:=ofB_size B
 have HZ0:=Lib.hid hz0
 generalize hbs:ofB B=bs at *
 clear hw1 hh1 hbs hz0 hk
 have hR:∃R:Nat→ByteArray,∀k,R k=ofB (repB B k):=⟨_,fun _=>rfl⟩
 obtain⟨R,hR⟩:=hR
 rw[←hR M]
 have HR2:Hid (R 0=⟨#[]⟩∧(∀k,(R k).size=k*B.length)∧∀k,R k++bs=R (k+1)):=(show _∧_ from ⟨by rw[hR];exact HZ0.out,fun k=>by rw[hR];exact HL.out k,fun k=>by rw[hR,hR];exact HZ.out k⟩)
 clear HL HZ HZ0 hR
 have HBB:=HB.out.ex
 generalize hbn:B.length=bn at *
 clear HB HBB hbn
 go_enter Tryz.func56,Tryz.ntmps56
 go_wp2
 rw[←HHW.out]
 clear HHW
 go_loopw [3,4] (fun s i wr=>W1=wr∧∃k:Nat,k≤M∧s = .string (R k)∧i = .int .i64 k) (fun _ i _=>M-(intOf i).toNat)
 case atStart=>exact⟨rfl,0,by omega,by rw[HR2.out.1],rfl⟩
 case round=>
  obtain⟨rfl,k,hkM,rfl,rfl⟩:=hrel
  have hsz:=HR2.out.2.1 k
  have HAP:=Lib.hid (HR2.out.2.2 k)
  have hkn:k*bn≤600:=by
   cases k with
   | zero=>omega
   | succ j=>
    have:=((HI.out j).1 (by omega)).2
    rw[Nat.add_mul,Nat.one_mul]
    exact this
  have hkb:k*bn+bn≤9223372036854775807:=by
   cases k with
   | zero=>omega
   | succ j=>
    have h1:=((HI.out j).1 (by omega)).2
    have h2:bn≤600:=by omega
    omega
  have hik:=HI.out k
  generalize k*bn=m at *
  obtain⟨z,hz⟩:∃z,z=R k:=⟨_,rfl⟩
  rw[←hz] at hsz HAP ⊢
  have HZK:=Lib.hid hz
  clear hz
  by_cases hkM2:k<M
  ·obtain⟨a1,a2⟩:=hik.1 hkM2
   clear hik
   go_wp2
   rw[HAP.out]
   refine⟨⟨trivial,k+1,by omega,rfl,by simp⟩,by simp[intOf];omega⟩
  ·obtain rfl:k=M:=by omega
   by_cases hT:k≤T
   ·have h600:600<m+bn:=by
     rcases Nat.lt_or_ge 600 (m+bn) with h|h
     ·exact h
     ·exact absurd (hik.2 ⟨hT,h⟩) (by omega)
    clear hik
    go_wp2
    go_ret
    rw[←HZK.out]
    exact⟨rfl,HW1.out⟩
   ·clear hik
    go_wp2
    go_ret
    rw[←HZK.out]
    exact⟨rfl,HW1.out⟩
open Go.RowKit Go.Sf Go.Shelf
theorem strB_of {l:List Int} (h:BL l):strB (ofB l)=l:=by
 unfold strB ofB
 simp only[List.map_map]
 refine(List.map_congr_left fun b hb=>?_).trans (List.map_id l)
 have:=h b hb
 show((UInt8.ofNat b.toNat).toNat:Int)=b
 rw[UInt8.toNat_ofNat_of_lt' (by show b.toNat<256;omega)]
 omega
theorem ofB_inj {l m:List Int} (hl:BL l) (hm:BL m) (h:ofB l=ofB m):l=m:=by rw[←strB_of hl,←strB_of hm,h]
def strE (b:List Int):List Value:=[.string (ofB b)]
theorem strE_len (b:List Int):(strE b).length=1:=rfl
theorem strE_one (b:List Int):∀u∈strE b,u.oneCell'=true:=fun u hu=>by
 simp only[strE,List.mem_cons,List.not_mem_nil,or_false] at hu
 subst hu;rfl
theorem infoStr:∃(i:TypeInfo) (z:Value) (by_:Nat),Tryz.prog.info? 9=some i∧i.zero=some z∧i.size=1∧i.bytes=by_∧z.cells.size=1∧by_≤1000:=by
 have h:((Tryz.prog.info? 9).bind fun i=>i.zero.map fun z=>(i.size,decide (i.bytes≤1000),z.cells.size))=some (1,true,1):=by kernel_rfl
 cases hi:Tryz.prog.info? 9 with
 | none=>rw[hi] at h;cases h
 | some i=>
  rw[hi] at h
  cases hz:i.zero with
  | none=>simp[hz] at h
  | some z=>
   simp[hz] at h
   exact⟨i,z,_,rfl,hz,h.1,rfl,h.2.2,h.2.1⟩
def TRow (w:World) (v:Value) (l:List (List Int)):Prop:=SRow w 9 1 strE v l
theorem TRow.y {w:World} {v:Value} {l:List (List Int)} (h:TRow w v l):YRow w strE v l:=by
 have h0:w.ownsRow 0 9 1 v l.length (l.flatMap strE):=h
 rcases h0.2 with ⟨rfl,hn⟩|⟨g,c,cur,rfl,_⟩
 ·exact⟨none,0,by rw[hn],Or.inl (List.eq_nil_of_length_eq_zero hn)⟩
 ·refine⟨_,_,rfl,Or.inr ⟨_,rfl,fun j u hu=>?_⟩⟩
  exact h0.cells (g:=g) rfl j u hu
theorem trow_nil (w:World):TRow w (.slice none 0 0) []:=⟨rfl,Or.inl ⟨rfl,rfl⟩⟩
def hsS (V:JV):List Int:=if V.at_=0 then [] else V.state
def hsB (V:JV):Bool:=decide (V.at_≠0)
structure VOk (V:JV) (k:Nat):Prop where
 few:V.entries.length≤k
 short:∀b∈V.entries,b.length≤600∧BL b
 st:V.state.length≤600∧BL V.state
theorem VOk.hs {V:JV} {k:Nat} (h:VOk V k):BL (hsS V):=by
 unfold hsS
 split
 ·intro b hb;simp at hb
 ·exact h.st.2
theorem VOk.up {V:JV} {k:Nat} (h:VOk V k):VOk V (k+1):=⟨by have:=h.few;omega,h.short,h.st⟩
def SameV (V X:JV):Prop:=hsS V=hsS X∧hsB V=hsB X∧V.entries=X.entries
def SameR (w:World) (P:Prop) (e:Ending) (w':World):Prop:=∃r,e = .returned (.bool r)∧w.grownBy w' none∧(r=true↔P)
theorem bstr_iff (A B:ByteArray):A.toList=B.toList↔A=B:=by
 rw[ByteArray.toList_eq,ByteArray.toList_eq]
 exact⟨fun h=>ByteArray.ext (Array.ext' h),fun h=>by rw[h]⟩
theorem sameR_no {w w':World} {P:Prop} (hg:w.grownBy w' none) (h:¬P):SameR w P (.returned (.bool false)) w':=⟨false,rfl,hg,fun e=>(by cases e),fun e=>absurd e h⟩
theorem sameR_yes {w w':World} {P:Prop} (hg:w.grownBy w' none) (h:P):SameR w P (.returned (.bool true)) w':=⟨true,rfl,hg,fun _=>h,fun _=>rfl⟩
section
variable {W w w' : World} {own : Nat → Prop} {jb db : Nat} {S : Sto} {V X : JV} {k k2 : Nat}
set_option maxHeartbeats 8000000 in
set_option maxRecDepth 100000 in
theorem same21_any (h:JR W own jb db (V.j S) w) (hV:VOk V k) (hX:VOk X k2) (hk:k≤1000) {pe:Option Addr} {ce:Nat} (hv:TRow w (.slice pe X.entries.length ce) X.entries) :
  Calls Tryz.prog 57 #[.pointer (some ⟨jb,0,none⟩),.agg #[.string (ofB (hsS X)),.bool (hsB X),.slice pe X.entries.length ce]] w (SameR w (SameV V X)):=by
 have HST:Hid (∀w1,w.grownBy w1 none→Calls Tryz.prog 54 #[.pointer (some ⟨jb,0,none⟩)] w1 fun e w'=>∃p n c,e = .returned (.tuple #[.slice p n c,.bool (hsB V)])∧w1.grownBy w' none∧RawRow w' (.slice p n c) (hsS V)):=Lib.hid fun w1 hg=>by
  unfold hsB hsS
  by_cases h0:V.at_=0
  ·refine((h.grown hg).state0 h0 (by have:=hV.st.1;omega)).mono ?_
   rintro e w' ⟨rfl,hg⟩
   exact⟨none,0,0,by rw[h0];rfl,hg,by rw[if_pos h0];exact⟨none,0,rfl,Or.inl rfl⟩⟩
  ·refine((h.grown hg).state1 h0 (by have:=hV.st.1;omega)).mono ?_
   rintro e w' ⟨p,c,rfl,hg,hr⟩
   exact⟨p,V.state.length,c,by simp[h0],hg,by rw[if_neg h0];exact hr⟩
 have HEN:Hid (∀w1,w.grownBy w1 none→Calls Tryz.prog 52 #[.pointer (some ⟨jb,0,none⟩)] w1 fun e w'=>∃p c,e = .returned (.slice p V.entries.length c)∧w1.grownBy w' none∧EntsAt w' p V.entries):=Lib.hid fun w1 hg=>(h.grown hg).ents1 (fun b hb=>by have:=(hV.short b hb).1;omega) (by have:=hV.few;omega)
 have HR:Hid (∀i (hi:i<X.entries.length),∃g,pe=some ⟨g,0,none⟩∧w.cell? ⟨g,i,none⟩=some (.string (ofB X.entries[i]))):=Lib.hid fun i hi=>by
  rcases SRow.at strE_len hv with e|⟨g,c,e,h1,-⟩
  ·rw[e] at hi;simp at hi
  ·injection e with e1
   have:=h1 i hi 0 _ rfl
   rw[Nat.mul_one,Nat.add_zero] at this
   exact⟨g,e1,this⟩
 have HSA:Hid (ofB (hsS V)=ofB (hsS X)↔hsS V=hsS X):=Lib.hid ⟨ofB_inj hV.hs hX.hs,fun e=>by rw[e]⟩
 have HEA:Hid (∀i (hi:i<V.entries.length) (hj:i<X.entries.length),ofB V.entries[i]=ofB X.entries[i]↔V.entries[i]=X.entries[i]):=Lib.hid fun i hi hj=>⟨ofB_inj (hV.short _ (List.getElem_mem hi)).2 (hX.short _ (List.getElem_mem hj)).2,fun e=>by rw[e]⟩
 have HGR:=Lib.hid h.gr
 have HFW:Hid (V.entries.length≤1000):=Lib.hid (Nat.le_trans hV.few hk)
 have HSV:Hid (SameV V X↔(hsS V=hsS X∧hsB V=hsB X∧V.entries=X.entries)):=Lib.hid Iff.rfl
 generalize SameV V X=P at *
 clear h hV hX hk hv
 generalize hA:hsS V=sa at *
 generalize hB:hsS X=sb at *
 generalize hC:hsB V=ba at *
 generalize hD:hsB X=bb at *
 generalize V.entries=la at *
 generalize X.entries=lb at *
 clear hA hB hC hD
 obtain⟨na,hna⟩:∃n,n=la.length:=⟨_,rfl⟩
 obtain⟨nb,hnb⟩:∃n,n=lb.length:=⟨_,rfl⟩
 have HNA:=Lib.hid hna
 have HNB:=Lib.hid hnb
 rw[←hna] at HEN HFW
 rw[←hnb] at ⊢
 clear hna hnb
 obtain⟨B,hb⟩:∃B,B=ofB sb:=⟨_,rfl⟩
 rw[←hb] at HSA ⊢
 clear hb
 have hw1:=World.grownBy_alloc w (.cells #[.string B,.bool bb,.slice pe nb ce] 85) none
 have hh1:=heap_alloc_new w (.cells #[.string B,.bool bb,.slice pe nb ce] 85)
 have HW1:=Lib.hid hw1
 obtain⟨W1,hW1⟩:∃x,x=w.alloc (.cells #[.string B,.bool bb,.slice pe nb ce] 85):=⟨_,rfl⟩
 have HHW:=Lib.hid hW1
 rw[←hW1] at hh1 HW1
 clear hW1 hw1
 have D0:Hid (W1.cell? ⟨w.heap.size,0,none⟩=some (.string B)):=Lib.hid ((cell_block hh1 0).trans rfl)
 have D1:Hid (W1.cell? ⟨w.heap.size,1,none⟩=some (.bool bb)):=Lib.hid ((cell_block hh1 1).trans rfl)
 have D2:Hid (W1.cell? ⟨w.heap.size,2,none⟩=some (.slice pe nb ce)):=Lib.hid ((cell_block hh1 2).trans rfl)
 clear hh1
 go_enter Tryz.func57,Tryz.ntmps57
 go_upto_region 1 with fail
 rw[←HHW.out]
 go_upto_region 3 with (first
  | (go_at_call 54;refine(HST.out _ HW1.out).mono ?_;rintro e w2 ⟨ps,ns,cs,rfl,hg2,hr2⟩;have HG2:=Lib.hid hg2;have HR2:=Lib.hid hr2;clear hg2 hr2)
  | (go_at_call 52;refine(HEN.out _ (HW1.out.trans HG2.out)).mono ?_;rintro e w3 ⟨pa,ca,rfl,hg3,he3⟩;have HG3:=Lib.hid hg3;have HE3:=Lib.hid he3;clear hg3 he3))
 have hcs:(convert 32 9 (.slice ps ns cs)).run Tryz.prog w3 = .ok (.string (ofB sa)) w3:=conv_raw (HR2.out.grown HG3.out (by simp))
 obtain⟨A,hA⟩:∃A,A=ofB sa:=⟨_,rfl⟩
 have HA:=Lib.hid hA
 rw[←hA] at hcs
 clear hA
 have HWW:=Lib.hid (HW1.out.trans (HG2.out.trans HG3.out))
 have d0:=(HG2.out.trans HG3.out).cell D0.out (by simp)
 have d1:=(HG2.out.trans HG3.out).cell D1.out (by simp)
 have d2:=(HG2.out.trans HG3.out).cell D2.out (by simp)
 have hbl:=cell_lt d0
 have HRW:Hid (∀i (hi:i<lb.length),∃g,pe=some ⟨g,0,none⟩∧w3.cell? ⟨g,i,none⟩=some (.string (ofB lb[i]))):=Lib.hid fun i hi=>by
  obtain⟨g,h1,h2⟩:=HR.out i hi
  exact⟨g,h1,HWW.out.cell h2 (by simp)⟩
 have HSB:Hid (A=B↔sa=sb):=Lib.hid (by rw[HA.out];exact HSA.out)
 have HTL:=Lib.hid (bstr_iff A B)
 clear HHW HST HEN HR HR2 D0 D1 D2 HSA HA
 generalize w.heap.size=xb at *
 by_cases h1:A=B
 ·by_cases h2:ba=bb
  ·by_cases h3:na=nb
   ·have HS1:Hid (la=lb↔P):=Lib.hid (by rw[HSV.out];exact⟨fun e=>⟨HSB.out.1 h1,h2,e⟩,fun e=>e.2.2⟩)
    subst h1 h2 h3
    clear HSB HTL HSV
    go_wp2
    go_loopw [8] (fun i wr=>w3.grownBy wr none∧∃j:Nat,j≤na∧i = .int .i64 j∧la.take j=lb.take j) (fun i _=>na-(intOf i).toNat)
    case atStart=>exact⟨grown_refl _,0,Nat.zero_le _,rfl,rfl⟩
    case round=>
     as_aux_lemma=>
     obtain⟨hg,j,hj,rfl,htk⟩:=hrel
     have hn1:na≤1000:=HFW.out
     have HTK:=Lib.hid htk
     have HG:=Lib.hid hg
     clear htk
     by_cases hjn:j<na
     ·have hja:j<la.length:=by rw[←HNA.out];exact hjn
      have hjb:j<lb.length:=by rw[←HNB.out];exact hjn
      obtain⟨ga,qa,da,rfl,ca1,ra1⟩:=HE3.out j hja
      obtain⟨gb,rfl,cb1⟩:=HRW.out j hjb
      have ca2:=hg.cell ca1 (by simp)
      have cb2:=hg.cell cb1 (by simp)
      have d22:=hg.cell d2 (by simp)
      have hla2:=cell_lt ca2
      have hlb2:=cell_lt cb2
      have hlx2:=cell_lt d22
      have hcv:∀x:Ext,(convert 32 9 (.slice qa la[j].length da)).run Tryz.prog (ext wr x) = .ok (.string (ofB la[j])) (ext wr x):=fun x=>conv_raw ((ra1.grown hg (by simp)).grown (grown_ext wr x) (by simp))
      have HQ:Hid (ofB la[j]=ofB lb[j]↔la.take (j+1)=lb.take (j+1)):=Lib.hid (by
       rw[List.take_succ_eq_append_getElem hja,List.take_succ_eq_append_getElem hjb,HTK.out,HEA.out j hja hjb]
       exact⟨fun e=>by rw[e],fun e=>(List.cons.inj (List.append_cancel_left e)).1⟩)
      have HT2:=Lib.hid (bstr_iff (ofB la[j]) (ofB lb[j]))
      generalize ofB la[j]=sa1 at *
      generalize ofB lb[j]=sb1 at *
      generalize la[j].length=nl at *
      have e1:(0:Int)≤(j:Int):=by omega
      have e2:(j:Int)<(na:Int):=by omega
      clear ra1 ca1 cb1 d0 d1 d2 hbl hcs hg
      by_cases hq:sa1=sb1
      ·have HQ2:=Lib.hid (HQ.out.1 hq)
       subst hq
       clear HQ HT2
       go_upto_region 8 with fail
       refine wp_region_quiet_ext (by kernel_rfl) (by kernel_rfl) ?_
       repeat (any_goals (first|go_big_quiet_step (fail)|quiet_step (fail)))
       refine wpQuiet_nil ?_
       intro _ hw'
       obtain⟨xx,hw''⟩:=hw'
       subst hw''
       have HG9:=Lib.hid (grown_ext wr xx)
       generalize ext wr xx=w9 at *
       go_wp2
       exact⟨⟨grown_trans HG.out HG9.out,j+1,by omega,by simp,HQ2.out⟩,by simp[intOf];omega⟩
      ·have hnt:(sa1.toList == sb1.toList)=false:=beq_eq_false_iff_ne.2 fun e=>hq (HT2.out.1 e)
       have HF:Hid (¬P):=Lib.hid fun e=>by
        have h5:=HS1.out.2 e
        exact hq (HQ.out.2 (by rw[h5]))
       clear HQ HT2
       go_upto_region 8 with fail
       refine wp_region_quiet_ext (by kernel_rfl) (by kernel_rfl) ?_
       repeat (any_goals (first|go_big_quiet_step (fail)|quiet_step (fail)))
       refine wpQuiet_nil ?_
       intro _ hw'
       obtain⟨xx,hw''⟩:=hw'
       subst hw''
       have HG9:=Lib.hid (grown_ext wr xx)
       generalize ext wr xx=w9 at *
       go_wp2
       all_goals go_ret
       all_goals exact sameR_no (HWW.out.trans (HG.out.trans HG9.out)) HF.out
     ·have HP:Hid P:=Lib.hid (HS1.out.1 (by
       have h5:=HTK.out
       rw[List.take_of_length_le (by rw[←HNA.out];omega),List.take_of_length_le (by rw[←HNB.out];omega)] at h5
       exact h5))
      go_wp2
      go_ret
      exact sameR_yes (HWW.out.trans HG.out) HP.out
   ·have hnm:((na:Int)=(nb:Int))=False:=by simp;omega
    have HF:Hid (¬P):=Lib.hid fun e=>h3 (by rw[HNA.out,HNB.out,(HSV.out.1 e).2.2])
    subst h1 h2
    go_wp2
    go_ret
    exact sameR_no HWW.out HF.out
  ·have HF:Hid (¬P):=Lib.hid fun e=>h2 (HSV.out.1 e).2.1
   subst h1
   go_wp2
   all_goals go_ret
   all_goals exact sameR_no HWW.out HF.out
 ·have HF:Hid (¬P):=Lib.hid fun e=>h1 (HSB.out.2 (HSV.out.1 e).1)
  have hnt:¬A.toList=B.toList:=fun e=>h1 (HTL.out.1 e)
  go_wp2
  all_goals go_ret
  all_goals exact sameR_no HWW.out HF.out
end
end Go.Proofs.YtbcbhlfjgobejaaGreat
