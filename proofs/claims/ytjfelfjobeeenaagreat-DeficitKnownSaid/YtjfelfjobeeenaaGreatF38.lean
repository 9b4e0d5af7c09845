/- DeficitNeeds: who is healthy, in plain Lean; what both sides tell. Conditions: tables that commands have made. DeficitNeeds: walked: it answers true. Conditions: a row of commands in memory. -/
import Derived.Test.YtjfelfjobeeenaaGreatF31
import Derived.Test.YtjfelfjobeeenaaGreatF37
import Derived.Test.YtjfelfjobeeenaaGreatF28
import Derived.Test.YtjfelfjobeeenaaGreatF29
import Derived.Outline
set_option linter.unusedSimpArgs false
set_option linter.unusedVariables false
namespace Go.Proofs.YtjfelfjobeeenaaGreat
open Go.RowKit Go.Sf Go.Shelf
def lacksB (l:List Nd) (x:Int):Bool:=l.any fun nd=>decide (x∈nd.mis)
def healthyB (L:Tab) (x:Int):Bool:=decide (0<lifeV L x) && decide (missL L x = [])
theorem lacks_needs (L:Tab) (N:Nat) (x:Int):lacksB (needL L N) x=true↔∃i∈curL L,x∈misN L i N:=by
 unfold lacksB needL
 simp only[List.any_eq_true,List.mem_flatMap,decide_eq_true_eq]
 constructor
 ·rintro⟨nd,⟨i,hi,hs⟩,hx⟩
  unfold ndS at hs
  split at hs
  ·simp at hs
  ·obtain rfl:=List.mem_singleton.1 hs
   exact⟨i,hi,hx⟩
 ·rintro⟨i,hi,hx⟩
  refine⟨ndL L N i,⟨i,hi,?_⟩,hx⟩
  unfold ndS
  rw[if_neg (fun e=>by have:x∈(ndL L N i).mis:=hx;rw[e] at this;simp at this)]
  simp
theorem healthy_law (L:Tab) (N:Nat) (hN:L.lives.length=N) (x:Int):healthyB L x=((decide (0≤x) && decide (x<N) && decide (0<lifeV L x)) && !lacksB (needL L N) x):=by
 unfold healthyB
 by_cases hl:0<lifeV L x
 ·have hx:0≤x∧x<N:=by
   unfold lifeV at hl
   split at hl
   ·omega
   ·rename_i h;omega
  have e1:decide (missL L x = []) = !lacksB (needL L N) x:=by
   rw[Bool.eq_iff_iff]
   simp only[decide_eq_true_eq,Bool.not_eq_true']
   rw[←Bool.not_eq_true,lacks_needs]
   unfold missL
   rw[if_neg (by omega),List.filter_eq_nil_iff]
   constructor
   ·rintro h ⟨i,hi,hm⟩
    have h1:=h i hi
    rw[mem_misN] at hm
    simp[notHas,hasB] at h1
    exact hm.2.2 h1
   ·intro h i hi h2
    simp[notHas,hasB] at h2
    exact h ⟨i,hi,mem_misN.2 ⟨⟨x.toNat,by omega,by omega⟩,hl,h2⟩⟩
  simp[hl,hx.1,hx.2,e1]
 ·simp[hl]
set_option maxHeartbeats 4000000 in
theorem healthyB_at {bs:Nat→Prop} {w:World} {tb:Nat} {L:Tab} (h:At bs w tb L) (n:Int) (hll:L.lives.length≤1000000) (hr:∀p∈L.values,p.1.size≤maxLen) (hl:L.values.length≤1000000) :
  Calls Tryz.prog 24 #[.pointer (some ⟨tb,0,none⟩),.int .i64 n] w fun e w'=>e = .returned (.bool (healthyB L n))∧w.grownBy w' none:=by
 by_cases hv:0<lifeV L n
 ·cases hm:missL L n with
  | nil=>
   have:healthyB L n=true:=by unfold healthyB;simp[hv,hm]
   rw[this]
   exact healthy_at h n hll hr hl hv hm
  | cons x r=>
   have e:healthyB L n=false:=by unfold healthyB;simp[hm]
   rw[e]
   have HL:=Lib.hid (life_at h n (by omega))
   have HM:=Lib.hid (fun W (hg:w.grownBy W none)=>missing_at (h.grown hg) n (by omega) hr hl)
   rw[hm] at HM
   obtain⟨m,hmm⟩:∃m,m=(x :: r).length:=⟨_,rfl⟩
   have hm0:((m:Int) == 0)=false:=by rw[hmm];simp;omega
   have HMM:=Lib.hid hmm
   clear h hm hr hl e hmm
   generalize lifeV L n=lv at *
   go_enter Tryz.func24,Tryz.ntmps24
   go_wp2_with (first
    | (go_at_call 23;refine HL.out.mono ?_;rintro e w1 ⟨rfl,hg⟩;have HG:=Lib.hid hg;clear hg)
    | (go_at_call 43;refine(HM.out _ HG.out).mono ?_;rintro e w2 ⟨v,rfl,⟨p,cap,rfl,_⟩,hg⟩;have HG2:=Lib.hid hg;clear hg;rw[←HMM.out]))
   go_ret
   exact⟨rfl,grown_trans HG.out HG2.out⟩
 ·have e:healthyB L n=false:=by unfold healthyB;simp[hv]
  rw[e]
  have HL:=Lib.hid (life_at h n (by omega))
  clear h hr hl e
  generalize lifeV L n=lv at *
  go_enter Tryz.func24,Tryz.ntmps24
  go_wp2_with (go_at_call 23;refine HL.out.mono ?_;rintro e w1 ⟨rfl,hg⟩;have HG:=Lib.hid hg;clear hg)
  go_ret
  exact⟨rfl,HG.out⟩
theorem NRowV.grown {W W':World} {E:TypeId} {v:Value} {xs:List Ndv} (h:NRowV W E v xs) (hg:W.grownBy W' none):NRowV W' E v xs:=
 ⟨h.1.grown hg (by simp),fun x hx=>(h.2 x hx).turn hg (fun r e=>by cases e)⟩
theorem rd_lread {W:World} {p:Option Addr} {l:List Int} (h:RdOk W p l) (n c:Nat) (hn:n=l.length):LRead W 1 cellsI (.slice p n c) l:=by
 subst hn
 refine⟨p,c,rfl,h.imp id fun ⟨g,e,_,hy⟩=>⟨g,e,fun i hi j u hu=>?_⟩⟩
 match j,hu with
 | 0,hu=>
  simp[cellsI] at hu
  subst hu
  have:=hy i l[i] (List.getElem?_eq_getElem hi)
  simpa using this
 | j+1,hu=>simp[cellsI] at hu
theorem rowv_at {W:World} {E:TypeId} {p:Option Addr} {n c i:Nat} {xs:List Ndv} {x:Ndv} (h:NRowV W E (.slice p n c) xs) (hi:xs[i]? = some x):∃g,p=some ⟨g,0,none⟩∧W.cell? ⟨g,i*4,none⟩=some (.string x.nd.id.key)∧W.cell? ⟨g,i*4+1,none⟩=some (.int .i64 x.nd.id.ver)∧W.cell? ⟨g,i*4+2,none⟩=some (.slice x.ph x.nd.held x.ch)∧W.cell? ⟨g,i*4+3,none⟩=some (.slice x.pm x.nd.mis.length x.cm)∧LRead W 1 cellsI (.slice x.ph x.nd.held x.ch) x.hs∧LRead W 1 cellsI (.slice x.pm x.nd.mis.length x.cm) x.nd.mis:=by
 obtain⟨hl,rfl⟩:=List.getElem?_eq_some_iff.1 hi
 have hok:=h.2 _ (List.getElem_mem hl)
 rcases h.1.at (fun x=>(rfl:(ndvCells x).length=4)) with h0|⟨g,cap,e,hc,-⟩
 ·subst h0;simp at hl
 ·injection e with e1 e2 e3
  exact⟨g,e1,by simpa using hc i hl 0 _ rfl,hc i hl 1 _ rfl,hc i hl 2 _ rfl,hc i hl 3 _ rfl,rd_lread hok.2.1 _ _ hok.2.2.symm,rd_lread hok.1 _ _ rfl⟩
section
variable {w W : World} {own : Nat → Prop} {tb rb : Nat} {L : Tab} {R : RTab} {N K j : Nat}
theorem Duo.needsV (h:Duo w own tb rb L R W) (hm:Md N K 60 L) (hN:N≤100) (M:Nat) (hM:M≤1000):Calls Tryz.prog 19 #[.pointer (some ⟨tb,0,none⟩),.int .i64 M] W fun e w'=>∃v xs,e = .returned v∧NRow w' v (needL L M)∧NRowV w' 71 v xs∧xs.map (·.nd)=needL L M∧(∀x∈xs,x.hs=holdL L x.nd.id)∧W.grownBy w' none:=by
 obtain⟨q,h1,h2,h3⟩:=h.ex
 have hv:=hm.vl
 refine needsV_any h1 M hM (fun i=>hm.inv.fits (by omega) i) (fun i=>?_) (by rw[hm.inv.ln];omega) (fun p hp=>?_) (by omega)
 ·rw[holdL_length]
  have:=(hm.inv.hm.len i).1
  omega
 ·have:=(hm.rng.v p hp).2
  unfold maxLen;omega
theorem Duo.rneedsV (h:Duo w own tb rb L R W) (hm:Md N K 60 L) (hb:Both N K j L R) (hj:j≤60) (hN:N≤100) (M:Nat) (hM:M≤1000):Calls Tryz.prog 76 #[.pointer (some ⟨rb,0,none⟩),.int .i64 M] W fun e w'=>∃v xs,e = .returned v∧NRow w' v (needL L M)∧NRowV w' 143 v xs∧xs.map (·.nd)=needL L M∧(∀x∈xs,x.hs=holdL L x.nd.id)∧W.grownBy w' none:=by
 obtain⟨q,h1,h2,h3⟩:=h.ex
 have hln:=hm.inv.ln
 have hRN:R.N=N:=by rw[hb.sim.s0.N,hln]
 refine rneeds_any h2 L N M hM hRN (by rw[hb.sim.s0.lives,hln]) (by omega) (cur_same hb.sim).symm (fun i=>(hold_same hb.inv hb.sim i).symm) (fun i a=>?_) (fun a ha=>?_) (fun a ha=>?_) (fun i=>?_) (by have:=hb.rb.lv;omega)
 ·rw[held_same hb.sim]
  unfold hasB
  rw[Bool.eq_iff_iff]
  simp only[decide_eq_true_eq,mem_holdL]
 ·exact rlife_same hb.sim (a:Int) ⟨by omega,by omega⟩
 ·unfold lifeV
  rw[if_pos (by omega)]
  exact Int.le_refl _
 ·rw[holdL_length]
  have:=(hm.inv.hm.len i).1
  omega
theorem Duo.healthyB (h:Duo w own tb rb L R W) (hm:Md N K 60 L) (hN:N≤100) (x:Int):Calls Tryz.prog 24 #[.pointer (some ⟨tb,0,none⟩),.int .i64 x] W fun e w'=>e = .returned (.bool (healthyB L x))∧W.grownBy w' none:=by
 obtain⟨q,h1,h2,h3⟩:=h.ex
 have hv:=hm.vl
 refine healthyB_at h1 x (by rw[hm.inv.ln];omega) (fun p hp=>?_) (by omega)
 have:=(hm.rng.v p hp).2
 unfold maxLen;omega
theorem Duo.rlive (h:Duo w own tb rb L R W) (hm:Md N K 60 L) (hb:Both N K j L R) {a:Nat} (ha:a<N):∃gL capL,W.cell? ⟨rb,4,none⟩=some (.slice (some ⟨gL,0,none⟩) N capL)∧W.cell? ⟨gL,a,none⟩=some (.int .i64 (lifeV L a))∧gL<W.heap.size:=by
 obtain⟨q,h1,h2,h3⟩:=h.ex
 have hln:=hm.inv.ln
 have hNl:R.lives.length=N:=by rw[hb.sim.s0.lives,hln]
 have hRN:R.N=N:=by rw[hb.sim.s0.N,hln]
 obtain⟨gL,capL,c4,cl,-,-,-⟩:=h2.live (show a<R.lives.length by omega)
 have hlf:R.lives.getD a 0=lifeV L a:=rlife_same hb.sim (a:Int) ⟨by omega,by omega⟩
 rw[hlf] at cl
 rw[hNl] at c4
 exact⟨gL,capL,c4,cl,cell_lt cl⟩
end
def lacksK (l:List Nd) (x:Int) (k:Nat):Bool:=lacksB (l.take k) x
theorem lacksK_succ {l:List Nd} {k:Nat} {nd:Nd} (h:l[k]? = some nd) (x:Int):lacksK l x (k+1)=(lacksK l x k || decide (x∈nd.mis)):=by
 obtain⟨h1,rfl⟩:=List.getElem?_eq_some_iff.1 h
 unfold lacksK lacksB
 rw[List.take_succ_eq_append_getElem h1,List.any_append];simp
def inK (l:List Int) (x:Int) (k:Nat):Bool:=decide (x∈l.take k)
theorem inK_succ {l:List Int} {k:Nat} {y:Int} (h:l[k]? = some y) (x:Int):inK l x (k+1)=(inK l x k || (y == x)):=by
 obtain⟨h1,rfl⟩:=List.getElem?_eq_some_iff.1 h
 unfold inK
 rw[List.take_succ_eq_append_getElem h1,Bool.eq_iff_iff]
 simp only[List.mem_append,List.mem_singleton,Bool.or_eq_true,decide_eq_true_eq,beq_iff_eq]
 exact or_congr Iff.rfl ⟨fun e=>e.symm,fun e=>e.symm⟩
theorem inK_all (l:List Int) (x:Int) {k:Nat} (h:l.length≤k):inK l x k=decide (x∈l):=by unfold inK;rw[List.take_of_length_le h]
set_option maxHeartbeats 16000000 in
set_option maxRecDepth 100000 in
theorem dneeds_any (a b c:Nat) (ha:a≤255) (hb:b≤255) (hc:c≤255) (v:Value) (l:List Cmd) (w:World) (h:CmdRow w w.heap.size v l) :
  Calls Tryz.prog 28 #[.int .u8 a,.int .u8 b,v,.int .u8 c] w fun e w'=>e = .returned (.bool true)∧w.grownBy w' none:=by
 obtain⟨N,hN⟩:∃N,N=1+a%8:=⟨_,rfl⟩
 obtain⟨K,hM⟩:=made2_any a b ha hb v l w h N hN
 have hN8:N≤8:=by omega
 obtain⟨k,hk⟩:∃k:Nat,k=c%10:=⟨_,rfl⟩
 have hk9:k≤9:=by omega
 have e1:(c:Int)%10=(k:Int):=by omega
 have HM:=Lib.hid hM
 clear hM hN hk h
 go_enter Tryz.func28,Tryz.ntmps28
 go_upto_region 2 with (go_at_call 16;refine HM.out.mono ?_;rintro e w1 (⟨rfl,hg⟩|⟨tb,rb,L,R,j,rfl,hd,hmd,hrn,hj,hbo⟩))
 ·have HG:=Lib.hid hg
  clear hg
  go_wp2_with (go_at_call 17;refine(works27_any _).mono ?_;rintro e w2 ⟨rfl,hg⟩;have HG2:=Lib.hid hg;clear hg)
  go_ret
  exact⟨rfl,grown_trans HG.out HG2.out⟩
 ·have HRN:=Lib.hid hrn
  have HD:=Lib.hid hd
  have HMD:=Lib.hid hmd
  have HBO:=Lib.hid hbo
  have HC0:Hid (∀W,w1.grownBy W none→W.cell? ⟨rb,0,none⟩=some (.int .i64 N)):=(show ∀_,_→_=_ from fun W hg=>by have:=(HD.out.grown hg).rc0;rwa [HRN.out] at this)
  have hrbw:=HD.out.tlt.2
  clear HM hd hmd hrn hbo
  have HNL:Hid (∀M,(needL L M).length≤60):=(show ∀_,_ from fun M=>by
   have h1:=needK_len L M (curL L).length
   unfold needK at h1
   rw[List.take_length] at h1
   exact Nat.le_trans h1 (Nat.le_trans (List.length_filterMap_le _ _) (by rw[skeys_length];exact HMD.out.vl)))
  have HHL:Hid (∀i,(holdL L i).length≤1000):=(show ∀_,_ from fun i=>by
   rw[holdL_length]
   have:=(HMD.out.inv.hm.len i).1
   omega)
  have HLAW:Hid (∀x,healthyB L x=((decide (0≤x) && decide (x<N) && decide (0<lifeV L x)) && !lacksB (needL L N) x)):=(show ∀_,_=_ from fun x=>healthy_law L N HMD.out.inv.ln x)
  go_upto_region 6 with (first
   | (go_at_call 19;refine(HD.out.needsV HMD.out (by omega) k (by omega)).mono ?_;rintro e w2 ⟨va,xs,rfl,hn,hv,hx,hh,hg⟩;obtain⟨pa,ca,rfl,-,-⟩:=hv.1.form;have HVA:=Lib.hid hv;have HXA:=Lib.hid hx;have HHA:=Lib.hid hh;have HG2:=Lib.hid hg;clear hn hv hx hh hg)
   | (go_at_call 76;refine((HD.out.grown HG2.out).rneedsV HMD.out HBO.out hj (by omega) k (by omega)).mono ?_;rintro e w3 ⟨vb,ys,rfl,hn,hv,hx,hh,hg⟩;obtain⟨pb,cb,rfl,-,-⟩:=hv.1.form;have HVB:=Lib.hid hv;have HXB:=Lib.hid hx;have HHB:=Lib.hid hh;have HG3:=Lib.hid hg;clear hn hv hx hh hg))
  have hxl:xs.length=ys.length:=by have h1:=congrArg List.length HXA.out;have h2:=congrArg List.length HXB.out;simp at h1 h2;omega
  have hyl:ys.length≤60:=by have h2:=congrArg List.length HXB.out;simp at h2;have:=HNL.out k;omega
  obtain⟨m,hm⟩:∃m,m=ys.length:=⟨_,rfl⟩
  rw[hxl,←hm]
  rw[hxl] at HVA
  rw[←hm] at HVA HVB hyl
  have HXL:=Lib.hid (hxl.trans hm.symm)
  have HYL:=Lib.hid hm.symm
  have HVA3:=Lib.hid (HVA.out.grown HG3.out)
  have HW3:=Lib.hid (grown_trans HG2.out HG3.out)
  clear HVA hxl hm HG2 HG3
  go_wp2
  go_loopw [15] (fun s wl=>∃i:Nat,i≤m∧s = .int .i64 i∧Hid (w3.grownBy wl none)) (fun s _=>m-(intOf s).toNat)
  case atStart=>exact⟨0,Nat.zero_le _,rfl,(show w3.grownBy w3 none from grown_refl _)⟩
  case round=>
   obtain⟨i,hi,rfl,hG⟩:=hrel
   have HG:=Lib.hid hG.out
   clear hG
   rcases Nat.lt_or_ge i m with hlt|hge
   ·obtain⟨x,hx⟩:∃x,xs[i]? = some x:=⟨_,List.getElem?_eq_getElem (by rw[HXL.out];exact hlt)⟩
    obtain⟨y,hy⟩:∃x,ys[i]? = some x:=⟨_,List.getElem?_eq_getElem (by rw[HYL.out];exact hlt)⟩
    have hnd:x.nd=y.nd:=by
     have h1:(xs.map (·.nd))[i]? = some x.nd:=by rw[List.getElem?_map,hx];rfl
     have h2:(ys.map (·.nd))[i]? = some y.nd:=by rw[List.getElem?_map,hy];rfl
     rw[HXA.out] at h1
     rw[HXB.out] at h2
     exact Option.some.inj (h1.symm.trans h2)
    have hhx:x.hs=holdL L y.nd.id:=by rw[←hnd];exact HHA.out x (List.mem_of_getElem? hx)
    have hhy:=HHB.out y (List.mem_of_getElem? hy)
    have hml:y.nd.mis.length≤1000:=by
     have h2:(ys.map (·.nd))[i]? = some y.nd:=by rw[List.getElem?_map,hy];rfl
     rw[HXB.out] at h2
     have h3:=List.mem_of_getElem? h2
     unfold needL at h3
     obtain⟨i3,_,h4⟩:=List.mem_flatMap.1 h3
     unfold ndS at h4
     split at h4
     ·simp at h4
     ·rw[List.mem_singleton.1 h4]
      have:=misN_len L i3 k
      show(misN L i3 k).length≤1000
      omega
    have hhl:=HHL.out y.nd.id
    obtain⟨ga,hpa,a0,a1,a2,a3,ra,rma⟩:=rowv_at (HVA3.out.grown HG.out) hx
    obtain⟨gb,hpb,b0,b1,b2,b3,rb2,rmb⟩:=rowv_at (HVB.out.grown HG.out) hy
    subst hpa hpb
    rw[hhx] at ra
    rw[hhy] at rb2
    rw[hnd] at a0 a1 a2 a3 ra rma
    have HRA:=Lib.hid ra
    have HRB:=Lib.hid rb2
    have HMA:=Lib.hid rma
    have HMB:=Lib.hid rmb
    have HHL1:=Lib.hid hhl
    have HML1:=Lib.hid hml
    have la:=cell_lt a0
    have lb:=cell_lt b0
    simp only at la lb
    clear hx hy hnd hhx hhy hhl hml ra rb2 rma rmb
    generalize holdL L y.nd.id=hs at *
    generalize y.nd.id.key=key at *
    generalize y.nd.id.ver=ver at *
    generalize y.nd.held=held at *
    generalize y.nd.mis=ms at *
    generalize hq:ms.length=q at *
    have HQ:=Lib.hid hq
    clear hq
    have hd1:(key.toList != key.toList)=false:=by simp
    have hd2:(ver != ver)=false:=by simp
    go_upto_region 11 with fail
    refine wp_region_quiet_ext (by kernel_rfl) (by kernel_rfl) ?_
    repeat (any_goals (first|go_big_quiet_step ((go_at_call 77;first|exact calls_ext (sameInts27_any (l:=hs) (HRA.out.grown (grown_ext _ _)) (HRB.out.grown (grown_ext _ _)) (by have:=HHL1.out;omega))|exact calls_ext (sameInts27_any (l:=ms) (HMA.out.grown (grown_ext _ _)) (HMB.out.grown (grown_ext _ _)) (by rw[HQ.out];have:=HML1.out;omega))))|quiet_step ((go_at_call 77;first|exact calls_ext (sameInts27_any (l:=hs) (HRA.out.grown (grown_ext _ _)) (HRB.out.grown (grown_ext _ _)) (by have:=HHL1.out;omega))|exact calls_ext (sameInts27_any (l:=ms) (HMA.out.grown (grown_ext _ _)) (HMB.out.grown (grown_ext _ _)) (by rw[HQ.out];have:=HML1.out;omega))))))
    refine wpQuiet_nil ?_
    intro _ hw'
    obtain⟨xq,hw''⟩:=hw'
    subst hw''
    have HX9:=Lib.hid (grown_trans HG.out (grown_ext wr xq))
    clear a0 a1 a2 a3 b0 b1 b2 b3 la lb hd1 hd2
    generalize ext wr xq=wy at *
    go_wp2
    go_roundw
    case rel=>exact⟨i+1,by omega,by go_num,HX9⟩
    case measure=>simp[intOf];omega
   ·obtain rfl:i=m:=by omega
    have HW4:=Lib.hid (grown_trans HW3.out HG.out)
    have c0r:=HC0.out wr HW4.out
    clear HVA3 HVB HXA HXB HHA HHB HXL HYL HG HW3
    obtain⟨w4,hw4⟩:∃x:World,x=wr:=⟨_,rfl⟩
    rw[←hw4] at HW4 c0r ⊢
    clear hw4
    go_upto_region 14 with (go_at_call 19;refine((HD.out.grown HW4.out).needsV HMD.out (by omega) N (by omega)).mono ?_;rintro e w5 ⟨va,xs,rfl,hn,hv,hx,hh,hg⟩;obtain⟨p5,c5,rfl,-,-⟩:=hv.1.form;have HV5:=Lib.hid hv;have HX5:=Lib.hid hx;have HG5:=Lib.hid (grown_trans HW4.out hg);have HGX:=Lib.hid hg;clear hn hv hx hh hg)
    have hq5:xs.length=(needL L N).length:=by have h1:=congrArg List.length HX5.out;simpa using h1
    obtain⟨q,hq⟩:∃q,q=xs.length:=⟨_,rfl⟩
    have hq60:q≤60:=by have:=HNL.out N;omega
    rw[←hq]
    rw[←hq] at HV5
    have HQ:=Lib.hid hq
    have HQN:=Lib.hid (hq.trans hq5)
    have HGT:Hid (∀x∈xs,x.nd.mis.length≤1000):=(show ∀_∈_,_ from fun x hx=>by
     have h3:x.nd∈needL L N:=by rw[←HX5.out];exact List.mem_map_of_mem hx
     unfold needL at h3
     obtain⟨i3,_,h4⟩:=List.mem_flatMap.1 h3
     unfold ndS at h4
     split at h4
     ·simp at h4
     ·rw[List.mem_singleton.1 h4]
      have:=misN_len L i3 N
      show(misN L i3 N).length≤1000
      omega)
    clear hq hq5 c0r HGX
    go_wp2
    go_loopw [17] (fun s wl=>∃x:Int,-1≤x∧x≤N+1∧s = .int .i64 x∧Hid (w5.grownBy wl none)) (fun s _=>((N:Int)+1-intOf s).toNat)
    case atStart=>exact⟨-1,by omega,by omega,rfl,(show w5.grownBy w5 none from grown_refl _)⟩
    case round=>
     obtain⟨x,hx1,hx2,rfl,hG⟩:=hrel
     have HG:=Lib.hid hG.out
     clear hG
     have c0r:=HC0.out wr (grown_trans HG5.out HG.out)
     by_cases hxN:x≤N
     ·obtain⟨w6,hw6⟩:∃x:World,x=wr:=⟨_,rfl⟩
      rw[←hw6] at HG c0r ⊢
      clear hw6
      have HZ:Hid (lacksK (needL L N) x 0=false):=(show _=_ from rfl)
      go_wp2
      go_loopw [18,19] (fun s t wl=>∃i:Nat,i≤q∧s = .bool (lacksK (needL L N) x i)∧t = .int .i64 i∧Hid (w6.grownBy wl none)) (fun _ t _=>q-(intOf t).toNat)
      case atStart=>exact⟨0,Nat.zero_le _,by rw[HZ.out],rfl,(show w6.grownBy w6 none from grown_refl _)⟩
      case round=>
       clear HZ
       obtain⟨i,hi,rfl,rfl,hG⟩:=hrel
       have HG6:=Lib.hid hG.out
       clear hG c0r
       rcases Nat.lt_or_ge i q with hlt|hge
       ·obtain⟨y,hy⟩:∃y,xs[i]? = some y:=⟨_,List.getElem?_eq_getElem (by rw[←HQ.out];exact hlt)⟩
        have hyn:(needL L N)[i]? = some y.nd:=by rw[←HX5.out,List.getElem?_map,hy];rfl
        have HLS:=Lib.hid (lacksK_succ hyn x)
        have hml:=HGT.out y (List.mem_of_getElem? hy)
        have HRV:Hid (∀W,wr.grownBy W none→∃g,p5=some ⟨g,0,none⟩∧W.cell? ⟨g,i*4+3,none⟩=some (.slice y.pm y.nd.mis.length y.cm)∧LRead W 1 cellsI (.slice y.pm y.nd.mis.length y.cm) y.nd.mis):=(show ∀_,_→_ from fun W hg=>by
         obtain⟨g,h1,_,_,_,h2,_,h3⟩:=rowv_at (HV5.out.grown (grown_trans (grown_trans HG.out HG6.out) hg)) hy
         exact⟨g,h1,h2,h3⟩)
        clear hy hyn
        generalize y.nd.mis=ms at *
        obtain⟨mq,hmq⟩:∃mq,mq=ms.length:=⟨_,rfl⟩
        rw[←hmq] at HRV hml
        have HMQ:=Lib.hid hmq
        clear hmq
        have HZ2:Hid ((lacksK (needL L N) x i || inK ms x 0)=lacksK (needL L N) x i):=(show _=_ from by simp[inK])
        have HEND:Hid ((lacksK (needL L N) x i || inK ms x mq)=lacksK (needL L N) x (i+1)):=(show _=_ from by rw[HLS.out,inK_all ms x (by rw[HMQ.out];exact Nat.le_refl _)])
        clear HLS
        generalize lacksK (needL L N) x i=b0 at *
        obtain⟨b9,hb9⟩:∃b,b=lacksK (needL L N) x (i+1):=⟨_,rfl⟩
        rw[←hb9] at HEND
        have HB9:=Lib.hid hb9
        clear hb9
        obtain⟨w7,hw7⟩:∃x:World,x=wr:=⟨_,rfl⟩
        rw[←hw7] at HRV HG6 ⊢
        clear hw7
        go_wp2
        go_loopw [18,20] (fun s t wl=>∃r:Nat,r≤mq∧s = .bool (b0 || inK ms x r)∧t = .int .i64 r∧Hid (w7.grownBy wl none)) (fun _ t _=>mq-(intOf t).toNat)
        case atStart=>exact⟨0,Nat.zero_le _,by rw[HZ2.out],rfl,(show w7.grownBy w7 none from grown_refl _)⟩
        case round=>
         clear HZ2
         obtain⟨r,hr,rfl,rfl,hG⟩:=hrel
         have HG7:=Lib.hid hG.out
         clear hG
         obtain⟨g,hp5,c3,rdm⟩:=HRV.out wr HG7.out
         subst hp5
         have hgw:=cell_lt c3
         simp only at hgw
         rcases Nat.lt_or_ge r mq with hlr|hgr
         ·obtain⟨z,hz⟩:∃z,ms[r]? = some z:=⟨_,List.getElem?_eq_getElem (by rw[←HMQ.out];exact hlr)⟩
          have HIS:=Lib.hid (inK_succ hz x)
          obtain⟨p',cap',e,hrd⟩:=rdm
          injection e with e4 e5 e6
          obtain⟨gm,hgm,hcm⟩:=hrd.resolve_left (fun e=>by rw[e] at hz;simp at hz)
          obtain⟨hzl,hzz⟩:=List.getElem?_eq_some_iff.1 hz
          have cz:=hcm r hzl 0 _ rfl
          rw[hzz] at cz
          simp only[Nat.mul_one,Nat.add_zero] at cz
          have hpm:=e4.trans hgm
          rw[hpm] at c3
          have HBB:Hid ((b0 || inK ms x (r+1))=((b0 || inK ms x r) || (z == x))):=(show _=_ from by rw[HIS.out,Bool.or_assoc])
          have HPM:=Lib.hid hpm
          clear hz e4 e5 e6 hgm hcm hzl hzz hpm HIS
          generalize (b0 || inK ms x r)=b at *
          cases b with
          | true=>
           go_wp2
           go_roundw
           case rel=>exact⟨r+1,by omega,by rw[HBB.out];rfl,by go_num,HG7⟩
           case measure=>simp[intOf];omega
          | false=>
           by_cases ezx:z=x
           ·have e1:(z == x)=true:=by simpa using ezx
            have e2:decide (z=x)=true:=by simpa using ezx
            have HB3:Hid ((b0 || inK ms x (r+1))=true):=(show _=_ from by rw[HBB.out,e1];rfl)
            clear ezx
            go_wp2
            go_roundw
            case rel=>exact⟨r+1,by omega,by rw[HB3.out];first|done|simp[e1],by go_num,HG7⟩
            case measure=>simp[intOf];omega
           ·have e1:(z == x)=false:=by simpa using ezx
            have e2:decide (z=x)=false:=by simpa using ezx
            have HB3:Hid ((b0 || inK ms x (r+1))=false):=(show _=_ from by rw[HBB.out,e1];rfl)
            clear ezx
            go_wp2
            go_roundw
            case rel=>exact⟨r+1,by omega,by rw[HB3.out];first|done|simp[e1],by go_num,HG7⟩
            case measure=>simp[intOf];omega
         ·obtain rfl:r=mq:=by omega
          clear rdm
          rw[HEND.out]
          go_wp2
          go_roundw
          case rel=>exact⟨i+1,by omega,by rw[←HB9.out],by go_num,(show _ from grown_trans HG6.out HG7.out)⟩
          case measure=>simp[intOf];omega
       ·obtain rfl:i=q:=by omega
        have HLK:Hid (lacksK (needL L N) x i=lacksB (needL L N) x):=(show _=_ from by unfold lacksK;rw[HQN.out,List.take_length])
        have HLX:=Lib.hid (HLAW.out x)
        rw[←HLK.out] at HLX
        have HHE:=Lib.hid (fun W (hg:wr.grownBy W none)=>(HD.out.grown (grown_trans (grown_trans (grown_trans HG5.out HG.out) HG6.out) hg)).healthyB HMD.out (by omega) x)
        have c0r:=HC0.out wr (grown_trans (grown_trans HG5.out HG.out) HG6.out)
        have HG8:=Lib.hid (grown_trans HG.out HG6.out)
        clear HLK
        generalize lacksK (needL L N) x i=lk at *
        generalize healthyB L x=hb at *
        by_cases hx0:x<0
        ·have hb0:hb=false:=by
          rw[HLX.out]
          have:decide (0≤x)=false:=by simp;omega
          simp[this]
         subst hb0
         clear HLX
         have hd0:decide (0≤x)=false:=by simp;omega
         go_wp2_with (go_at_call 24;refine(HHE.out _ (grown_refl _)).mono ?_;rintro e w8 ⟨rfl,hg⟩;have HG9:=Lib.hid (grown_trans HG8.out hg);clear hg)
         go_roundw
         case rel=>exact⟨x+1,by omega,by omega,by go_num,HG9⟩
         case measure=>simp[intOf];omega
        ·by_cases hxN2:x<N
         ·obtain⟨a,rfl⟩:=Int.eq_ofNat_of_zero_le (show 0≤x by omega)
          obtain⟨gL,capL,c4,cl,hgL⟩:=(HD.out.grown (grown_trans (grown_trans HG5.out HG.out) HG6.out)).rlive HMD.out HBO.out (a:=a) (by omega)
          generalize lifeV L (a:Int)=lv at *
          by_cases hl0:0<lv
          ·have hb0:hb = !lk:=by rw[HLX.out];simp[hl0];omega
           subst hb0
           clear HLX
           cases lk with
           | true=>
            go_wp2_with (go_at_call 24;refine(HHE.out _ (grown_refl _)).mono ?_;rintro e w8 ⟨rfl,hg⟩;have HG9:=Lib.hid (grown_trans HG8.out hg);clear hg)
            go_roundw
            case rel=>exact⟨(a:Int)+1,by omega,by omega,by go_num,HG9⟩
            case measure=>simp[intOf];omega
           | false=>
            go_wp2_with (go_at_call 24;refine(HHE.out _ (grown_refl _)).mono ?_;rintro e w8 ⟨rfl,hg⟩;have HG9:=Lib.hid (grown_trans HG8.out hg);clear hg)
            go_roundw
            case rel=>exact⟨(a:Int)+1,by omega,by omega,by go_num,HG9⟩
            case measure=>simp[intOf];omega
          ·have hb0:hb=false:=by rw[HLX.out];simp[hl0]
           subst hb0
           clear HLX
           go_wp2_with (go_at_call 24;refine(HHE.out _ (grown_refl _)).mono ?_;rintro e w8 ⟨rfl,hg⟩;have HG9:=Lib.hid (grown_trans HG8.out hg);clear hg)
           go_roundw
           case rel=>exact⟨(a:Int)+1,by omega,by omega,by go_num,HG9⟩
           case measure=>simp[intOf];omega
         ·have hb0:hb=false:=by
           rw[HLX.out]
           have:decide (x<(N:Int))=false:=by simp;omega
           simp[this]
          subst hb0
          clear HLX
          have hd0:decide (x<(N:Int))=false:=by simp;omega
          go_wp2_with (go_at_call 24;refine(HHE.out _ (grown_refl _)).mono ?_;rintro e w8 ⟨rfl,hg⟩;have HG9:=Lib.hid (grown_trans HG8.out hg);clear hg)
          go_roundw
          case rel=>exact⟨x+1,by omega,by omega,by go_num,HG9⟩
          case measure=>simp[intOf];omega
     ·go_wp2_with (go_at_call 17;refine(works27_any _).mono ?_;rintro e w8 ⟨rfl,hg⟩;have HG8:=Lib.hid hg;clear hg)
      go_ret
      exact⟨rfl,grown_trans (grown_trans (grown_trans HD.out.base HG5.out) HG.out) HG8.out⟩
end Go.Proofs.YtjfelfjobeeenaaGreat
