/- The journal's Append: the walk. Conditions: none, or as the theorems say. -/
import Derived.Test.YtbcbhlfjgobejaaGreatI33
import Derived.Test.YtbcbhlfjgobejaaGreatI35
import Derived.Test.YtbcbhlfjgobejaaGreatI27
import Derived.Test.YtbcbhlfjgobejaaGreatI28
set_option linter.unusedSimpArgs false
set_option linter.unusedVariables false
namespace Go.Proofs.YtbcbhlfjgobejaaGreat
set_option maxHeartbeats 200000000
open Go.RowKit Go.Sf Go.Shelf
attribute [local go_sem] Oper.semAt_some
def Jnl.app (J:Jnl) (b:List Int):Jnl × Int:=
 if (J.put 69 b).2.2=0 then ({ (J.put 69 b).1 with entries:=(J.put 69 b).1.entries ++ [b] },0) else ((J.put 69 b).1,(J.put 69 b).2.2)
attribute [local go_sem] Oper.semAt_some
attribute [local go_sem] Oper.semAt_some
attribute [local go_sem] Oper.semAt_some
def Sto.getB (S:Sto) (k:Int):List Int:=((zw S.recs k).map (·.1)).getD []
def Jnl.new (S:Sto):Jnl:=⟨S,0,[],[],0⟩
section
variable {own : Nat → Prop} {W : World} {jb st db : Nat} {S : Sto}
theorem sgetB (h:Zc own W st db S) (k:Int) (hl:∀r∈S.recs,r.2.1.length≤200000):Calls Tryz.prog 21 #[.pointer (some ⟨st,0,none⟩),.int .i64 k] W fun e w'=>W.grownBy w' none∧∃p n c ok,e = .returned (.tuple #[.slice p n c,.bool ok])∧ye (fun i=>W.heap.size≤i∧i<w'.heap.size) w' (.slice p n c) (zi (S.getB k)):=by
 obtain⟨mb,tb,rv,rb,hS⟩:=h;refine(sget hS k).mono ?_;rintro e w' ⟨hg,v,rfl,hv⟩
 rcases hv with ⟨h1,rfl⟩|⟨r,h1,h2⟩
 ·refine⟨hg,none,0,0,_,rfl,?_⟩
  unfold Sto.getB;rw[h1]
  exact⟨none,0,rfl,Nat.le_refl _,by omega,Or.inl rfl⟩
 ·have hr:r.1.length≤200000:=by
   have hm:(k,r)∈S.recs:=uo h1
   exact hl _ hm
  have h3:=uv.rowP h2 (by omega)
  obtain⟨p,c,rfl,_⟩:=h3.ex;refine⟨hg,p,_,c,_,rfl,?_⟩;unfold Sto.getB;rw[h1]
  exact h3
end
@[go_sem] theorem asCp1 (v:Value) (w:World):(Instr.typeAssert (.iface 212 v) 20 212 true).run Tryz.prog w = .ok (.tuple #[v,.bool true]) w:=by kernel_rfl
@[go_sem] theorem asCp2 (v:Value) (w:World):(Instr.typeAssert (.iface 214 v) 20 212 true).run Tryz.prog w = .ok (.tuple #[.slice none 0 0,.bool false]) w:=by kernel_rfl
@[go_sem] theorem asCp3 (w:World):(Instr.typeAssert .nilIface 20 212 true).run Tryz.prog w = .ok (.tuple #[.slice none 0 0,.bool false]) w:=by kernel_rfl
@[go_sem] theorem asEn (v:Value) (w:World):(Instr.typeAssert (.iface 214 v) 20 214 false).run Tryz.prog w = .ok v w:=by kernel_rfl
attribute [local go_sem] Oper.semAt_some
open Classical in
noncomputable def vsaidK (k:Int) (t:List Int):Option (Int ⊕ ShM):=
 if k=76 then (if t.length=8∧1≤wrap64 (num t:Nat)∧wrap64 (num t:Nat)≤4611686018427387904 then some (.inl (wrap64 (num t:Nat))) else none)
 else if k=83 then (if h:∃s,okS t s∧s.key.length≤64 then some (.inr h.choose) else none)
 else none
noncomputable def vsaid:List Int→Option (Int ⊕ ShM)
 | []=>none
 | k :: t=>vsaidK k t
def Xy (P:Nat→Prop) (W:World) (b:List Int) (v:Value):Prop:=match vsaid b with
 | none=>v = .nilIface
 | some (.inl n)=>v = .iface 222 (.int .i64 n)
 | some (.inr s)=>∃pk ck pr cr,v = .iface 97 (shV pk ck pr cr s)∧ye P W (.slice pk s.key.length ck) (zi s.key)∧ye P W (.slice pr s.row.length cr) (zi s.row)
theorem zjm {t:List Int} (h:t.length=8∧1≤wrap64 (num t:Nat)∧wrap64 (num t:Nat)≤4611686018427387904):vsaid (76 :: t)=some (.inl (wrap64 (num t:Nat))):=by
 show vsaidK _ t=_
 unfold vsaidK;rw[if_pos rfl,if_pos h]
theorem zg4 {t:List Int} (h:¬(t.length=8∧1≤wrap64 (num t:Nat)∧wrap64 (num t:Nat)≤4611686018427387904)):vsaid (76 :: t)=none:=by
 show vsaidK _ t=_
 unfold vsaidK;rw[if_pos rfl,if_neg h]
theorem zjn {t:List Int} {s:ShM} (h:okS t s) (hk:s.key.length≤64):vsaid (83 :: t)=some (.inr s):=by
 show vsaidK _ t=_
 unfold vsaidK;have he:∃s,okS t s∧s.key.length≤64:=⟨s,h,hk⟩;rw[if_neg (by decide),if_pos rfl,dif_pos he,zeh he.choose_spec.1 h]
theorem zg6 {t:List Int} (h:∀s,okS t s→¬s.key.length≤64):vsaid (83 :: t)=none:=by
 show vsaidK _ t=_
 unfold vsaidK;rw[if_neg (by decide),if_pos rfl,dif_neg fun ⟨s,h1,h2⟩=>h s h1 h2]
theorem zne {k:Int} {t:List Int} (h1:k≠76) (h2:k≠83):vsaid (k :: t)=none:=by
 show vsaidK _ t=_
 unfold vsaidK;rw[if_neg h1,if_neg h2]
section
variable {P : Nat → Prop} {W : World}
theorem ye.gr {w:World} {v:Value} {cs:List Value} (h:ye P W v cs) (hg:W.grownBy w none):ye P w v cs:=by
 obtain⟨p,cap,rfl,h1,h2,h3⟩:=h.ex;refine⟨p,cap,rfl,h1,h2,?_⟩
 rcases h3 with h3|⟨a,rfl,hb,h4⟩
 ·exact Or.inl h3
 ·exact Or.inr ⟨a,rfl,hb,fun j u hu=>hg.cell (h4 j u hu) (by simp)⟩
theorem Yl {b:List Int} (h:vsaid b=none):Xy P W b .nilIface:=by unfold Xy;rw[h]
theorem saidV_L {b:List Int} {n:Int} (h:vsaid b=some (.inl n)):Xy P W b (.iface 222 (.int .i64 n)):=by unfold Xy;rw[h]
theorem saidV_S {b:List Int} {s:ShM} (h:vsaid b=some (.inr s)) {pk pr:Option Addr} {ck cr:Nat} (h1:ye P W (.slice pk s.key.length ck) (zi s.key)) (h2:ye P W (.slice pr s.row.length cr) (zi s.row)):Xy P W b (.iface 97 (shV pk ck pr cr s)):=by unfold Xy;rw[h];exact⟨pk,ck,pr,cr,rfl,h1,h2⟩
theorem Ql {W w w':World} {rb:Nat} (hg:W.grownBy w none) (hle:W.heap.size≤rb) (ht:zq (fun k=>k=rb) w w'):W.grownBy w' none:=
 xi (r:=some rb) hg ⟨ht.os,ht.tape,ht.output,ht.size,fun k hk hn=>ht.block k hk fun e=>hn (by rw[e])⟩ fun b hb=>by injection hb with hb;omega
def SayV (W:World) (b:List Int) (e:Ending) (w':World):Prop:=W.grownBy w' none∧∃x,e = .returned x∧Xy (fun k=>W.heap.size≤k∧k<w'.heap.size) w' b x
set_option maxRecDepth 100000 in
theorem zjo {v:Value} {b:List Int} (h:ye P W v (zi b)) (hbl:BL b) (hl:b.length≤200000):Calls Tryz.prog 129 #[v] W (SayV W b):=by
 obtain⟨p,cap,rfl,h1,h2,h3⟩:=h.ex
 cases b with
 | nil=>
  have e0:(zi []).length=0:=rfl;rw[e0] at *;clear h h3
  go_enter Tryz.func129,Tryz.ntmps129
  go_wp2
  go_ret
  exact⟨zm _,_,rfl,Yl rfl⟩
 | cons k t=>
  obtain⟨a,rfl,hb,h4⟩:∃a,p=some a∧P a.block∧∀j u,(zi (k :: t))[j]? = some u→W.cell? (a.add j)=some u:=by
   rcases h3 with h3|h3
   ·exact absurd h3 (by simp[zi])
   ·exact h3
  have e0:(zi (k :: t)).length=t.length+1:=by rw[zr];rfl
  rw[e0] at h1 h;have c0:W.cell? a=some (.int .u8 k):=by
   have e:a.add 0=a:=by unfold Addr.add;split <;> simp_all
   have:=h4 0 _ rfl
   rwa [e] at this
  have h5:∀j u,(zi t)[j]? = some u→W.cell? (a.add (j+1))=some u:=fun j u hj=>h4 (j+1) u hj
  rw[e0];have hn:(0:Int)<((t.length+1:Nat):Int):=by omega
  have hbt:BL t:=fun x hx=>hbl x (List.mem_cons_of_mem _ hx)
  have hlt:t.length≤199999:=by simp only[List.length_cons] at hl;omega
  have HTL:Hid (∀v,(∃m,m=t.length∧(v=Value.slice (if cap=1 then some a else some ⟨a.block,a.off+1,none⟩) m (cap-1)∨v=Value.slice (some ⟨a.block,a.off+1,none⟩) m (cap-1)∨(t.length+1≤1∧v = .slice (some a) m 0)))→ye P W v (zi t)):=zd fun v hv=>by
   obtain⟨m,rfl,hv⟩:=hv
   rcases hv with rfl|rfl|⟨hv,rfl⟩
   ·by_cases hc:cap=1
    ·rw[if_pos hc,show cap-1=0 by omega]
     exact zdu (n:=t.length+1) (by omega) rfl
    ·rw[if_neg hc]
     exact zdt (n:=t.length+1) hb h1 h2 rfl h5
   ·exact zdt (n:=t.length+1) hb h1 h2 rfl h5
   ·exact zdu (n:=t.length+1) hv rfl
  have HOP:Hid (∀v,ye P W v (zi t)→(v = .slice none 0 0→False)→Calls Tryz.prog 163 #[v] W fun e w'=>∃rb,e = .returned (.pointer (some ⟨rb,0,none⟩))∧RdG rb w' rb t (0,false)∧W.grownBy w' none∧W.heap.size≤rb):=zd fun v hv h0=>Xi hv.raw (by omega) (fun e=>absurd e h0)
  have HGT:Hid (∀v w,ye P W v (zi t)→W.grownBy w none→Calls Tryz.prog 189 #[v] w (GetL w t)):=zd fun v w hv hg=>zky (hv.gr hg) hbt (by omega)
  have H1:=zd h1;have H2:=zd h2;have HBT:=zd hbt;have hlg:t.length=8→Zz t (0,false) 8=num t:=fun e=>by
   unfold Zz;rw[if_pos ((jl _ _ _).2 ⟨rfl,by simp;omega⟩),List.drop_zero,List.take_of_length_le (by omega)]
  clear h h3 h4 h5 h1 h2 hbt hbl hl e0
  by_cases hk:k=76
  ·subst hk
   by_cases h8:t.length=8
   ·have HQ:=hlg h8
    clear hlg;have h8':((t.length+1:Nat):Int)=9:=by omega
    have hc1:¬cap=1:=by have:=H1.out;omega
    by_cases hq:1≤wrap64 (num t:Nat)∧wrap64 (num t:Nat)≤4611686018427387904
    ·have HV:=zd (zjm ⟨h8,hq⟩)
     obtain⟨q1,q2⟩:=hq;have HQQ:=zd HQ;clear HQ;generalize num t=nv at *
     go_enter Tryz.func129,Tryz.ntmps129
     go_wp2_with (first
      | (go_at_call 165;refine(zft HR2.out HBT.out).mono ?_;rintro e w3 ⟨rfl,hr,ht⟩;have HT3:=zd ht;rw[HQQ.out];clear hr ht)
      | (go_at_call 163;(refine(HOP.out _ (HTL.out _ (by first|(refine⟨_,?_,Or.inl rfl⟩;omega)|(refine⟨_,?_,Or.inr (Or.inl rfl)⟩;omega)|(refine⟨_,?_,Or.inr (Or.inr ⟨by have:=H1.out;omega,rfl⟩)⟩;omega))) (fun e=>by first|(split at e <;> cases e)|cases e)).mono ?_;rintro e w2 ⟨rb,rfl,hr,hg,hle⟩;have HR2:=zd hr;have HG2:=zd (And.intro hg hle);have c2:=hg.cell c0 (by simp);clear hr hg hle)))
     all_goals go_ret
     all_goals exact⟨Ql HG2.out.1 HG2.out.2 HT3.out,_,rfl,saidV_L HV.out⟩
    ·have HV:=zd (zg4 (t:=t) fun e=>hq e.2)
     have HQQ:=zd HQ;clear HQ;generalize num t=nv at *
     by_cases q1:1≤wrap64 (nv:Nat)
     ·have q2:¬wrap64 (nv:Nat)≤4611686018427387904:=fun e=>hq ⟨q1,e⟩
      clear hq
      go_enter Tryz.func129,Tryz.ntmps129
      go_wp2_with (first
       | (go_at_call 165;refine(zft HR2.out HBT.out).mono ?_;rintro e w3 ⟨rfl,hr,ht⟩;have HT3:=zd ht;rw[HQQ.out];clear hr ht)
       | (go_at_call 163;(refine(HOP.out _ (HTL.out _ (by first|(refine⟨_,?_,Or.inl rfl⟩;omega)|(refine⟨_,?_,Or.inr (Or.inl rfl)⟩;omega)|(refine⟨_,?_,Or.inr (Or.inr ⟨by have:=H1.out;omega,rfl⟩)⟩;omega))) (fun e=>by first|(split at e <;> cases e)|cases e)).mono ?_;rintro e w2 ⟨rb,rfl,hr,hg,hle⟩;have HR2:=zd hr;have HG2:=zd (And.intro hg hle);have c2:=hg.cell c0 (by simp);clear hr hg hle)))
      all_goals go_ret
      all_goals exact⟨Ql HG2.out.1 HG2.out.2 HT3.out,_,rfl,Yl HV.out⟩
     ·clear hq
      go_enter Tryz.func129,Tryz.ntmps129
      go_upto_region 7 with (first
       | (go_at_call 165;refine(zft HR2.out HBT.out).mono ?_;rintro e w3 ⟨rfl,hr,ht⟩;have HT3:=zd ht;rw[HQQ.out];clear hr ht)
       | (go_at_call 163;(refine(HOP.out _ (HTL.out _ (by first|(refine⟨_,?_,Or.inl rfl⟩;omega)|(refine⟨_,?_,Or.inr (Or.inl rfl)⟩;omega)|(refine⟨_,?_,Or.inr (Or.inr ⟨by have:=H1.out;omega,rfl⟩)⟩;omega))) (fun e=>by first|(split at e <;> cases e)|cases e)).mono ?_;rintro e w2 ⟨rb,rfl,hr,hg,hle⟩;have HR2:=zd hr;have HG2:=zd (And.intro hg hle);have c2:=hg.cell c0 (by simp);clear hr hg hle)))
      generalize wrap64 (nv:Nat)=q at *;have q3:(1≤q)=False:=by simp[q1]
      clear q1;go_wp2
      go_ret
      exact⟨Ql HG2.out.1 HG2.out.2 HT3.out,_,rfl,Yl HV.out⟩
   ·have HV:=zd (zg4 (t:=t) fun e=>h8 e.1)
    have h8':¬((t.length+1:Nat):Int)=9:=by omega
    clear hlg
    go_enter Tryz.func129,Tryz.ntmps129
    go_wp2_with (first
     | (go_at_call 165;refine(zft HR2.out HBT.out).mono ?_;rintro e w3 ⟨rfl,hr,ht⟩;have HT3:=zd ht;generalize Zz t (0,false) 8=gv at *;clear hr ht)
     | (go_at_call 163;(refine(HOP.out _ (HTL.out _ (by first|(refine⟨_,?_,Or.inl rfl⟩;omega)|(refine⟨_,?_,Or.inr (Or.inl rfl)⟩;omega)|(refine⟨_,?_,Or.inr (Or.inr ⟨by have:=H1.out;omega,rfl⟩)⟩;omega))) (fun e=>by first|(split at e <;> cases e)|cases e)).mono ?_;rintro e w2 ⟨rb,rfl,hr,hg,hle⟩;have HR2:=zd hr;have HG2:=zd (And.intro hg hle);have c2:=hg.cell c0 (by simp);clear hr hg hle)))
    all_goals go_ret
    all_goals exact⟨Ql HG2.out.1 HG2.out.2 HT3.out,_,rfl,Yl HV.out⟩
  ·clear hlg
   by_cases hk2:k=83
   ·subst hk2
    clear hk
    by_cases hs:∃s,okS t s
    ·obtain⟨s,hs⟩:=hs
     have HG:Hid (∀v w,ye P W v (zi t)→W.grownBy w none→Calls Tryz.prog 189 #[v] w fun e w'=>∃pk ck pr cr,e = .returned (.tuple #[.agg #[.slice pk s.key.length ck,.int .i64 s.znm,.int .i64 s.node,.slice pr s.row.length cr],.int .i64 0])∧w.grownBy w' none∧ye (fun k=>w.heap.size≤k∧k<w'.heap.size) w' (.slice pk s.key.length ck) (zi s.key)∧ye (fun k=>w.heap.size≤k∧k<w'.heap.size) w' (.slice pr s.row.length cr) (zi s.row)):=zd fun v w hv hg=>(HGT.out v w hv hg).mono (by
      rintro e w' ⟨h1,⟨h2,rfl⟩|⟨s',h2,pk,ck,pr,cr,rfl,h3,h4⟩⟩
      ·exact absurd hs (h2 s)
      ·obtain rfl:=zeh h2 hs
       exact⟨pk,ck,pr,cr,rfl,h1,h3,h4⟩)
     by_cases h64:s.key.length≤64
     ·have HV:=zd (zjn hs h64)
      clear hs;obtain⟨key,znm,node,row⟩:=s;simp only at HG h64;have HLA:Hid (∀(Q:Nat→Prop) (w:World) pk ck pr cr,ye Q w (.slice pk key.length ck) (zi key)→ye Q w (.slice pr row.length cr) (zi row)→Xy Q w (83 :: t) (.iface 97 (.agg #[.slice pk key.length ck,.int .i64 znm,.int .i64 node,.slice pr row.length cr]))):=zd fun Q w pk ck pr cr h1 h2=>saidV_S HV.out h1 h2
      clear HV;generalize key.length=la at *;generalize row.length=ma at *
      go_enter Tryz.func129,Tryz.ntmps129
      go_wp2_with (first
       | (go_at_call 189;refine(HG.out _ w2 (HTL.out _ (by first|(refine⟨_,?_,Or.inl rfl⟩;omega)|(refine⟨_,?_,Or.inr (Or.inl rfl)⟩;omega)|(refine⟨_,?_,Or.inr (Or.inr ⟨by have:=H1.out;omega,rfl⟩)⟩;omega))) HG2.out.1).mono ?_;rintro e w3 ⟨pk,ck,pr,cr,rfl,hg,hk,hr⟩;have HG3:=zd (HG2.out.1.trans hg);have HZ2:=zd HG2.out.1.size;have HKR:=zd (And.intro hk hr);clear hg hk hr)
       | (go_at_call 163;(refine(HOP.out _ (HTL.out _ (by first|(refine⟨_,?_,Or.inl rfl⟩;omega)|(refine⟨_,?_,Or.inr (Or.inl rfl)⟩;omega)|(refine⟨_,?_,Or.inr (Or.inr ⟨by have:=H1.out;omega,rfl⟩)⟩;omega))) (fun e=>by first|(split at e <;> cases e)|cases e)).mono ?_;rintro e w2 ⟨rb,rfl,hr,hg,hle⟩;have HR2:=zd hr;have HG2:=zd (And.intro hg hle);have c2:=hg.cell c0 (by simp);clear hr hg hle)))
      all_goals go_ret
      all_goals refine⟨HG3.out.trans (zg _ _ none),_,rfl,HLA.out _ _ pk ck pr cr ?_ ?_⟩
      all_goals first|exact(HKR.out.1.gr (zg _ _ none)).mono fun k hk=>⟨Nat.le_trans HZ2.out hk.1,Nat.lt_of_lt_of_le hk.2 (by simp)⟩|exact(HKR.out.2.gr (zg _ _ none)).mono fun k hk=>⟨Nat.le_trans HZ2.out hk.1,Nat.lt_of_lt_of_le hk.2 (by simp)⟩
     ·have HV:=zd (zg6 (t:=t) fun s' hs'=>by rw[zeh hs' hs];exact h64)
      clear hs;obtain⟨key,znm,node,row⟩:=s;simp only at HG h64;generalize key.length=la at *;generalize row.length=ma at *
      go_enter Tryz.func129,Tryz.ntmps129
      go_wp2_with (first
       | (go_at_call 189;refine(HG.out _ w2 (HTL.out _ (by first|(refine⟨_,?_,Or.inl rfl⟩;omega)|(refine⟨_,?_,Or.inr (Or.inl rfl)⟩;omega)|(refine⟨_,?_,Or.inr (Or.inr ⟨by have:=H1.out;omega,rfl⟩)⟩;omega))) HG2.out.1).mono ?_;rintro e w3 ⟨pk,ck,pr,cr,rfl,hg,hk,hr⟩;have HG3:=zd (HG2.out.1.trans hg);have HZ2:=zd HG2.out.1.size;have HKR:=zd (And.intro hk hr);clear hg hk hr)
       | (go_at_call 163;(refine(HOP.out _ (HTL.out _ (by first|(refine⟨_,?_,Or.inl rfl⟩;omega)|(refine⟨_,?_,Or.inr (Or.inl rfl)⟩;omega)|(refine⟨_,?_,Or.inr (Or.inr ⟨by have:=H1.out;omega,rfl⟩)⟩;omega))) (fun e=>by first|(split at e <;> cases e)|cases e)).mono ?_;rintro e w2 ⟨rb,rfl,hr,hg,hle⟩;have HR2:=zd hr;have HG2:=zd (And.intro hg hle);have c2:=hg.cell c0 (by simp);clear hr hg hle)))
      all_goals go_ret
      all_goals exact⟨HG3.out.trans (zg _ _ none),_,rfl,Yl HV.out⟩
    ·have HV:=zd (zg6 (t:=t) fun s' hs' _=>hs ⟨s',hs'⟩)
     have HG:Hid (∀v w,ye P W v (zi t)→W.grownBy w none→Calls Tryz.prog 189 #[v] w fun e w'=>e = .returned (.tuple #[jo,.int .i64 160])∧w.grownBy w' none):=zd fun v w hv hg=>(HGT.out v w hv hg).mono (by
      rintro e w' ⟨h1,⟨h2,rfl⟩|⟨s',h2,pk,ck,pr,cr,rfl,h3,h4⟩⟩
      ·exact⟨rfl,h1⟩
      ·exact absurd ⟨s',h2⟩ hs)
     clear hs;unfold jo at HG
     go_enter Tryz.func129,Tryz.ntmps129
     go_wp2_with (first
      | (go_at_call 189;refine(HG.out _ w2 (HTL.out _ (by first|(refine⟨_,?_,Or.inl rfl⟩;omega)|(refine⟨_,?_,Or.inr (Or.inl rfl)⟩;omega)|(refine⟨_,?_,Or.inr (Or.inr ⟨by have:=H1.out;omega,rfl⟩)⟩;omega))) HG2.out.1).mono ?_;rintro e w3 ⟨rfl,hg⟩;have HG3:=zd (HG2.out.1.trans hg);clear hg)
      | (go_at_call 163;(refine(HOP.out _ (HTL.out _ (by first|(refine⟨_,?_,Or.inl rfl⟩;omega)|(refine⟨_,?_,Or.inr (Or.inl rfl)⟩;omega)|(refine⟨_,?_,Or.inr (Or.inr ⟨by have:=H1.out;omega,rfl⟩)⟩;omega))) (fun e=>by first|(split at e <;> cases e)|cases e)).mono ?_;rintro e w2 ⟨rb,rfl,hr,hg,hle⟩;have HR2:=zd hr;have HG2:=zd (And.intro hg hle);have c2:=hg.cell c0 (by simp);clear hr hg hle)))
     all_goals go_ret
     all_goals exact⟨HG3.out.trans (zg _ _ none),_,rfl,Yl HV.out⟩
   ·have b1:(k == 76)=false:=by simp[hk]
    have b2:(k == 83)=false:=by simp[hk2]
    have HV:=zd (zne (t:=t) hk hk2);clear hk hk2
    go_enter Tryz.func129,Tryz.ntmps129
    go_wp2_with (first
     | (go_at_call 163;(refine(HOP.out _ (HTL.out _ (by first|(refine⟨_,?_,Or.inl rfl⟩;omega)|(refine⟨_,?_,Or.inr (Or.inl rfl)⟩;omega)|(refine⟨_,?_,Or.inr (Or.inr ⟨by have:=H1.out;omega,rfl⟩)⟩;omega))) (fun e=>by first|(split at e <;> cases e)|cases e)).mono ?_;rintro e w2 ⟨rb,rfl,hr,hg,hle⟩;have HR2:=zd hr;have HG2:=zd (And.intro hg hle);have c2:=hg.cell c0 (by simp);clear hr hg hle)))
    all_goals go_ret
    all_goals exact⟨HG2.out.1,_,rfl,Yl HV.out⟩
end
attribute [local go_sem] Oper.semAt_some
structure JGood (S:Sto):Prop where
 num:∀r∈S.recs,1≤r.1∧r.1≤4611686018427387904
 short:∀r∈S.recs,r.2.1.length≤200000
 rise:S.keys.Pairwise (·< ·)
 few:S.recs.length≤1000
 late:S.d.late.length+1000<1000000
theorem key_row {w:World} {B n:Nat} {v:Value} {ks:List Int} (hn:ks.length=n) (h:w.ownsRow B 2 1 v n (ks.map (Value.int .i64))):∃p cap,v = .slice p n cap∧∀j (hj:j<ks.length),∃g,p=some ⟨g,0,none⟩∧B≤g∧g<w.heap.size∧w.cell? ⟨g,j,none⟩=some (.int .i64 ks[j]):=by
 subst hn
 rcases h.2 with ⟨e1,h0⟩|⟨g,c,cur,e1,hb,hh,r1,r2,r3,r4⟩
 ·exact⟨none,0,by rw[e1,h0],fun j hj=>by omega⟩
 ·refine⟨_,_,e1,fun j hj=>⟨g,rfl,hb,(Array.getElem?_eq_some_iff.1 hh).1,?_⟩⟩
  subst e1;rw[h.cellAt j (by omega),List.getElem?_map,List.getElem?_eq_getElem hj]
  rfl
section
variable {own own2 : Nat → Prop} {W X : World} {jb st db : Nat} {S : Sto} {n : Nat}
theorem ue {A:Nat→Prop} {X Y:World} (hg:X.grownBy Y none):zq A X Y:=⟨hg.os,hg.tape,hg.output,hg.size,fun k hk _=>hg.block k hk (by simp)⟩
theorem Zc.lessJ (h:Zc own2 W st db S) (h1:∀k,own k→own2 k):Zc own W st db S:=h.othJ (zq.refl _ _) (fun k hk=>Or.inl (h1 k hk)) (fun k hk=>h.own_lt (h1 k hk))
end
attribute [local go_sem] Oper.semAt_some
def oldA (o:List Int) (V:Vlt):List Int:=if 0<V.at_ then o ++ [V.at_] else o
def zei (o:List Int) (V:Vlt) (i:VID):List Int:=if (zw V.sh i).isSome=true then o ++ [(V.look i).2] else o
noncomputable def vfold (S:Sto):List Int→Vlt→List Int→Option (Vlt × List Int)
 | [],V,o=>some (V,o)
 | k :: t,V,o=>match vsaid (S.getB k) with
  | none=>none
  | some (.inl n)=>vfold S t (V.znn n k) (oldA o V)
  | some (.inr s)=>vfold S t (V.keep (idS s) s k) (zei o V (idS s))
theorem zna {S:Sto} {k:Int} (t:List Int) (V:Vlt) (o:List Int) (h:vsaid (S.getB k)=none):vfold S (k :: t) V o=none:=by
 rw[vfold,h]
theorem zjk {S:Sto} {k n:Int} (t:List Int) (V:Vlt) (o:List Int) (h:vsaid (S.getB k)=some (.inl n)):vfold S (k :: t) V o=vfold S t (V.znn n k) (oldA o V):=by
 rw[vfold,h]
theorem zjl {S:Sto} {k:Int} {s:ShM} (t:List Int) (V:Vlt) (o:List Int) (h:vsaid (S.getB k)=some (.inr s)):vfold S (k :: t) V o=vfold S t (V.keep (idS s) s k) (zei o V (idS s)):=by
 rw[vfold,h]
def ja:Sto→List Int→Sto × Int
 | S,[]=>(S,0)
 | S,k :: t=>if (S.rem k).2≠0 then S.rem k else ja (S.rem k).1 t
def Vlt.new (S:Sto):Vlt:=⟨S,0,0,[],0⟩
theorem okS_may {b:List Int} {s:ShM} (h:okS b s) (hb:BL b):ze3 s∧BL s.key∧BL s.row:=by
 obtain⟨h4,g,hg,ho,rfl⟩:=h;have hg2:∀st k,BL (Vc (b.take (b.length-4)) st k):=fun st k=>by
  unfold Vc
  split
  ·exact fun x hx=>hb x (List.mem_of_mem_take (List.mem_of_mem_drop (List.mem_of_mem_take hx)))
  ·exact fun x hx=>by simp at hx
 refine⟨(Yj _ ?_).1 ?_,?_,?_⟩
 ·show wrap64 _≤_
  unfold wrap64;omega
 ·unfold okG at ho
  simp only[Bool.and_eq_true] at ho
  exact ho.2.2.2
 ·show BL g.key
  rw[hg.key]
  exact hg2 _ _
 ·show BL g.row
  rw[hg.row]
  exact hg2 _ _
section
variable {own : Nat → Prop} {W : World} {st db : Nat} {S : Sto}
theorem VAt.new (h:Zc own W st db S):VAt own ((W.alloc (.map #[] 0)).alloc (.cells #[.pointer (some ⟨st,0,none⟩),.int .i64 0,.int .i64 0,.map (some W.heap.size),.int .i64 0] 224)) (W.heap.size+1) st db W.heap.size [] (fun k=>k=W.heap.size∨k=W.heap.size+1) (Vlt.new S):=by
 have hg1:=zg W (.map #[] 0) none;have hg2:=zg (W.alloc (.map #[] 0)) (.cells #[.pointer (some ⟨st,0,none⟩),.int .i64 0,.int .i64 0,.map (some W.heap.size),.int .i64 0] 224) none;have hb:=heap_alloc_new (W.alloc (.map #[] 0)) (.cells #[.pointer (some ⟨st,0,none⟩),.int .i64 0,.int .i64 0,.map (some W.heap.size),.int .i64 0] 224);rw[show(W.alloc (.map #[] 0)).heap.size=W.heap.size+1 by simp] at hb
 have hg:=hg1.trans hg2;refine⟨hb,?_,(Jv W yu uw).kept hg2 (by simp),fun p hp=>by simp at hp,rfl,Or.inr rfl,Or.inl rfl,fun k hk e=>by have:=h.own_lt hk;omega⟩
 exact h.othJ ⟨hg.os,hg.tape,hg.output,hg.size,fun k hk _=>hg.block k hk (by simp)⟩ (fun k hk=>hk.imp id (fun e=>by omega)) (fun k hk=>hk.elim (fun e=>Nat.lt_of_lt_of_le (h.own_lt e) hg.size) (fun e=>by simp;omega))
end
@[go_sem] theorem asLi1 (v:Value) (w:World):(Instr.typeAssert (.iface 222 v) 20 222 true).run Tryz.prog w = .ok (.tuple #[v,.bool true]) w:=by kernel_rfl
@[go_sem] theorem asLi2 (v:Value) (w:World):(Instr.typeAssert (.iface 97 v) 20 222 true).run Tryz.prog w = .ok (.tuple #[.int .i64 0,.bool false]) w:=by kernel_rfl
@[go_sem] theorem asLi3 (w:World):(Instr.typeAssert .nilIface 20 222 true).run Tryz.prog w = .ok (.tuple #[.int .i64 0,.bool false]) w:=by kernel_rfl
@[go_sem] theorem asSh1 (v:Value) (w:World):(Instr.typeAssert (.iface 97 v) 20 97 true).run Tryz.prog w = .ok (.tuple #[v,.bool true]) w:=by kernel_rfl
@[go_sem] theorem asSh3 (w:World):(Instr.typeAssert .nilIface 20 97 true).run Tryz.prog w = .ok (.tuple #[jo,.bool false]) w:=by kernel_rfl
open Go.RowKit Go.Sf
def lds (S:Sto):List Nat:=S.recs.flatMap (·.2.2)
structure JSt (S:Sto) (N:Nat):Prop where
 sd:yi S.d
 late:S.d.late.length≤4
 n:S.d.n=N
 brk:S.broken=0
 tl:S.taken.length=N
 tk:∀i,i<N→S.taken[i]? = some (decide (i∈lds S))
 nd:(lds S).Nodup
 lt:∀i∈lds S,i<N
 ne:∀r∈S.recs,r.2.2≠[]
 kn:∀r∈S.recs,1≤r.1∧r.1<S.next
 up:(S.recs.map (·.1)).Pairwise (·< ·)
 n1:1≤S.next
theorem zdz (p:Nat→Bool):∀l:List Nat,l.length=(l.filter p).length+(l.filter fun i=>!p i).length
 | []=>rfl
 | a :: t=>by
  have:=zdz p t
  by_cases h:p a=true <;> simp[h] <;> omega
theorem Uw (N:Nat) (L:List Nat) (hn:L.Nodup) (hl:∀i∈L,i<N):((List.range N).filter fun i=>!decide (i∈L)).length+L.length=N:=by
 have h1:((List.range N).filter fun i=>decide (i∈L)).Perm L:=(List.perm_ext_iff_of_nodup (List.Nodup.sublist List.filter_sublist List.nodup_range) hn).2 fun a=>by
  simp only[List.mem_filter,List.mem_range,decide_eq_true_eq]
  exact⟨And.right,fun h=>⟨hl a h,h⟩⟩
 have h2:=h1.length_eq;have h3:=zdz (fun i=>decide (i∈L)) (List.range N)
 rw[List.length_range,h2] at h3;omega
section
variable {S : Sto} {N : Nat}
theorem JSt.fr (h:JSt S N) (n:Nat):yn S.taken n S.taken.length=((List.range N).filter fun i=>!decide (i∈lds S)).take n:=by
 unfold yn;rw[h.tl]
 congr 1
 apply List.filter_congr
 intro i hi;rw[h.tk i (List.mem_range.1 hi)]
 by_cases hm:i∈lds S <;> simp[hm]
theorem JSt.free (h:JSt S N):zdc S.taken+(lds S).length=N:=by
 have e:S.taken=(List.range N).map fun i=>decide (i∈lds S):=by
  apply List.ext_getElem?
  intro i
  by_cases hi:i<N
  ·rw[h.tk i hi];simp[hi]
  ·rw[List.getElem?_eq_none (by rw[h.tl];omega),List.getElem?_eq_none (by simp;omega)]
 have h1:=Uw N (lds S) h.nd h.lt;have h2:zdc S.taken=((List.range N).filter fun i=>!decide (i∈lds S)).length:=by
  rw[e];unfold zdc;rw[List.countP_map,List.countP_eq_length_filter]
  congr 1
 omega
theorem JSt.put (h:JSt S N) (hx:S.next≤4611686018427387904) {b:List Int} (hb:b.length≤131072) (hf:zt b.length≤zdc S.taken) (hp:0<zt b.length) :
  ∃S' fr,S.put b=(S',S.next,0)∧JSt S' N∧S'.recs=S.recs ++ [(S.next,(b,fr))]∧S'.next=S.next+1∧fr.length=zt b.length:=by
 have hfr:=h.fr (zt b.length);have h2:=h.free;have h1:=Uw N (lds S) h.nd h.lt;have hlen:(yn S.taken (zt b.length) S.taken.length).length=zt b.length:=by
  rw[hfr,List.length_take];omega
 obtain⟨d',s1,s2,s3,s4⟩:=put_ok h.sd h.brk hx (h.tl.trans h.n.symm) hb hlen;have hin:∀i∈yn S.taken (zt b.length) S.taken.length,i<N∧i ∉ lds S:=fun i hi=>by
  rw[hfr] at hi;have:=List.mem_of_mem_take hi;simp only[List.mem_filter,List.mem_range,Bool.not_eq_true',decide_eq_false_iff_not] at this
  exact this
 have hnd:=Vm S.taken (zt b.length) S.taken.length;generalize yn S.taken (zt b.length) S.taken.length=fr at *;have hnk:∀r∈S.recs,r.1≠S.next:=fun r hr e=>by have:=(h.kn r hr).2;omega
 have hre:yj S.recs S.next (b,fr)=S.recs ++ [(S.next,(b,fr))]:=Zn hnk _;have hlds:lds ((Sto.kept { S with d:=d' } S.next b fr).next1)=lds S++fr:=by
  show(yj S.recs S.next (b,fr)).flatMap (·.2.2)=_
  rw[hre];unfold lds;simp
 refine⟨_,fr,s4,⟨s1,by show d'.late.length≤4;rw[s3];exact Nat.zero_le _,s2.trans h.n,h.brk,?_,?_,?_,?_,?_,?_,?_,?_⟩,hre,rfl,hlen⟩
 ·show(qu S.taken fr true).length=N
  rw[qv,h.tl]
 ·intro i hi
  rw[hlds]
  show(qu S.taken fr true)[i]? = _
  by_cases hm:i∈fr
  ·rw[Ja fr S.taken i hm (by rw[h.tl];exact hi)]
   simp[hm]
  ·rw[Vt fr S.taken i hm,h.tk i hi]
   simp[hm]
 ·rw[hlds]
  refine List.nodup_append.2 ⟨h.nd,hnd,fun a ha c hc e=>?_⟩
  subst e
  exact(hin a hc).2 ha
 ·rw[hlds]
  intro i hi
  rcases List.mem_append.1 hi with e|e
  ·exact h.lt i e
  ·exact(hin i e).1
 ·intro r hr
  have hr2:r∈S.recs ++ [(S.next,(b,fr))]:=by rw[←hre];exact hr
  rcases List.mem_append.1 hr2 with e|e
  ·exact h.ne r e
  ·rw[List.mem_singleton.1 e]
   intro e2;simp only at e2;rw[e2] at hlen;simp at hlen;omega
 ·intro r hr
  have hr2:r∈S.recs ++ [(S.next,(b,fr))]:=by rw[←hre];exact hr
  show 1≤r.1∧r.1<S.next+1
  rcases List.mem_append.1 hr2 with e|e
  ·have:=h.kn r e;omega
  ·rw[List.mem_singleton.1 e]
   have:=h.n1;simp only;omega
 ·show((yj S.recs S.next (b,fr)).map (·.1)).Pairwise _
  rw[hre,List.map_append];refine List.pairwise_append.2 ⟨h.up,by simp,fun a ha c hc=>?_⟩
  obtain⟨r,hr,rfl⟩:=List.mem_map.1 ha;simp only[List.map_cons,List.map_nil,List.mem_singleton] at hc;subst hc
  exact(h.kn r hr).2
 ·show 1≤S.next+1
  have:=h.n1;omega
end
theorem zb7 (rows:List (zx × xm)):∀(ks:List zx) (S:Sto),(∀i,S.taken[i]? = some true→i∈lds S)→∀i,(vt rows ks S).taken[i]? = some true→i∈lds (vt rows ks S)
 | [],S,h=>h
 | K :: t,S,h=>by
  refine zb7 rows t (vd rows S K) ?_;unfold vd
  cases zw rows K with
  | none=>exact h
  | some r=>
   simp only
   split
   ·exact h
   ·intro i hi
    rename_i hc
    have hno:zw S.recs K.k=none:=by
     cases e:zw S.recs K.k with
     | none=>rfl
     | some z=>exact absurd (Or.inl (by rw[e];rfl)) hc
    have hrec:(S.kept K.k (ud r) (xp r)).recs=S.recs ++ [(K.k,(ud r,xp r))]:=jf hno _;unfold lds;rw[hrec,List.flatMap_append];refine List.mem_append.2 ?_
    by_cases hm:i∈xp r
    ·exact Or.inr (by simpa using hm)
    ·refine Or.inl (h i ?_)
     rw[←Vt (x:=true) (xp r) S.taken i hm]
     exact hi
theorem zl4 {d:Dk} {ks:List zx} {all:List (Int × List Int)} {blk:Int→List Nat} (h:ql (openS d ks) all blk) (hs:yi (openS d ks).d) (hnd:(all.flatMap fun q=>blk q.1).Nodup) (hne:∀q∈all,blk q.1≠[]) (hkn:∀q∈all,1≤q.1∧q.1<(openS d ks).next) (hup:(all.map (·.1)).Pairwise (·< ·)) (hn1:1≤(openS d ks).next):JSt (openS d ks) (openS d ks).d.n:=by
 have hl:lds (openS d ks)=all.flatMap fun q=>blk q.1:=by
  unfold lds;rw[h.recs,List.flatMap_map]
 have hlt:∀i∈lds (openS d ks),i<(openS d ks).d.n:=fun i hi=>by
  rw[hl] at hi;obtain⟨q,hq,hi⟩:=List.mem_flatMap.1 hi
  exact h.good.blt q hq i hi
 refine⟨hs,by rw[h.late];exact Nat.zero_le _,rfl,h.brk,h.tl,fun i hi=>?_,by rw[hl];exact hnd,hlt,fun r hr=>?_,fun r hr=>?_,?_,hn1⟩
 ·have hx:=zb7 (scanN ya (bk d.now) d.n).rows ks ⟨d.opened.1,[],List.replicate d.n false,(scanN ya (bk d.now) d.n).next,0⟩ (fun i hi=>by
   have:=List.getElem?_eq_some_iff.1 hi;obtain⟨h1,h2⟩:=this;simp at h2) i
  have hx':(openS d ks).taken[i]? = some true→i∈lds (openS d ks):=hx;have hi2:i<(openS d ks).taken.length:=by rw[h.tl];exact hi
  by_cases hm:i∈lds (openS d ks)
  ·have hm2:=hm
   rw[hl] at hm2;obtain⟨q,hq,hm2⟩:=List.mem_flatMap.1 hm2;rw[h.tak q hq i hm2];simp[hm]
  ·rw[List.getElem?_eq_getElem hi2]
   cases e:(openS d ks).taken[i] with
   | true=>exact absurd (hx' (by rw[List.getElem?_eq_getElem hi2,e])) hm
   | false=>simp[hm]
 ·rw[h.recs] at hr
  obtain⟨q,hq,rfl⟩:=List.mem_map.1 hr
  exact hne q hq
 ·rw[h.recs] at hr
  obtain⟨q,hq,rfl⟩:=List.mem_map.1 hr
  exact hkn q hq
 ·rw[h.recs,List.map_map]
  exact hup
theorem vf.nodup {C:List Int→Nat} {f:Nat→List Int} {N:Nat} {all:List (Int × List Int)} {blk:Int→List Nat} {next:Int} (g:vf C f N all blk next):(all.flatMap fun q=>blk q.1).Nodup:=by
 unfold List.Nodup;rw[List.pairwise_flatMap];refine⟨fun q hq=>?_,?_⟩
 ·rw[List.pairwise_iff_getElem]
  intro i j hi hj hij e;have h1:=g.at_ q hq i _ (List.getElem?_eq_getElem hi);have h2:=g.at_ q hq j _ (List.getElem?_eq_getElem hj);rw[e] at h1;have h3:=Option.some.inj (h1.symm.trans h2)
  injection h3 with _ h3
  omega
 ·refine List.Pairwise.imp_of_mem ?_ (List.pairwise_map.1 g.srt)
  intro a b ha hb hab x hx y hy e;subst e;obtain⟨j,hj⟩:=List.getElem?_of_mem hx;obtain⟨j2,hj2⟩:=List.getElem?_of_mem hy;have h1:=g.at_ a ha j _ hj;have h2:=g.at_ b hb j2 _ hj2;have h3:=Option.some.inj (h1.symm.trans h2)
  injection h3 with h3
  omega
theorem zhv {d:Dk} {ks:List zx} {all:List (Int × List Int)} {blk:Int→List Nat} (h:ql (openS d ks) all blk) (hs:yi (openS d ks).d):JSt (openS d ks) (openS d ks).d.n:=
 zl4 h hs h.good.nodup (fun q hq e=>by
  have h1:=h.good.bln q hq;rw[e] at h1;have:=uq q.2.length;simp at h1;omega) (fun q hq=>h.good.key hq) h.good.srt h.good.pos
def KJ (S:Sto) (N:Nat) (all:List (Int × List Int)):Prop:=JSt S N∧∃blk,ql S all blk
section
variable {S : Sto} {N : Nat} {all : List (Int × List Int)}
variable {J : Jnl} {b : List Int}
end
theorem zj4 {S:Sto} {all:List (Int × List Int)} {blk:Int→List Nat} (h:ql S all blk):∀q∈all,S.getB q.1=q.2:=fun q hq=>by
 unfold Sto.getB;rw[h.key_get hq]
 rfl
end Go.Proofs.YtbcbhlfjgobejaaGreat
