/- VaultKeeps: whatever its arguments are, it answers true, and they read as they did. Conditions: none, or as the theorems say. -/
import Derived.Test.YtbcbhlfjgobejaaGreatRows
import Derived.Test.YtbcbhlfjgobejaaGreatI47
import Derived.Test.YtbcbhlfjgobejaaGreatI48
import Derived.WalkKit
import Derived.ProofKit
import Derived.OpenShut
set_option linter.unusedSimpArgs false
set_option linter.unusedVariables false
namespace Go.Proofs.YtbcbhlfjgobejaaGreat.vaultKeeps
set_option maxHeartbeats 200000000
open Go.ChangeShapes Go.WideShapes Go.ChangeAt Go.RowKit Go.Deep Go.Sf Go.Joins
theorem own:ownKnob Tryz.prog.godebug=none:=by kernel_rfl
theorem small (a:Int) (h:(Lit.int .u8 a).wf=true):0≤a∧a≤255:=by
 simpa[Lit.wf,IntKind.min,IntKind.max,IntKind.signed,IntKind.bits] using h
set_option maxRecDepth 100000 in
theorem lifted (os:Os) (started:os.Started) (H:Type) (enc:TypeId × Value→H) :
  ReturnsInHanded {} Tryz.checked os 12 .any (Rows.vaultKeepsSpec.pre6 enc Tryz.prog Tryz.f12 Rows.vaultKeepsRow.domain false) (Rows.vaultKeepsSpec.post enc Tryz.prog Tryz.f12 false true false false):=by
 refine returnsInHanded_of_change (C:=Tryz.checked) own started (by kernel_rfl) Tryz.func12
  (ChangeSpec.witness6 (enc:=enc) (C:=Tryz.checked) false ⟨#[],#[.int .u8 0,.slice none 0 0,.slice none 0 0],[]⟩ 8 (by kernel_rfl) (by kernel_rfl) (by kernel_rfl) (by kernel_rfl)) ?_
 intro W base args ds gs before hval0 hW _ _;have hval:∀(j:Nat) t v,Tryz.f12.params[j]? = some t→args[j]? = some v→Value.okWide Tryz.prog W .any base t v:=hval0;have hW':=hW;have hlt:∀p∈before,p.block<W.heap.size:=fun p hp=>hW.lt p hp
 obtain⟨p,q,hA0,hV,rfl,_,_⟩:=hW;have hA:DataW.TrodAll enc Tryz.prog W 0 (fun _=>true) true Tryz.f12.params.toList args.toList ds p:=hA0
 have hAk:=hA;rw[Tryz.params12] at hA hval;obtain⟨v0,vs0,d0,ds0,p0,q0,hargs,rfl,rfl,h0,r0⟩:=trodAll_cons hA;obtain⟨v1,vs1,d1,ds1,p1,q1,rfl,rfl,rfl,h1,r1⟩:=trodAll_cons r0;obtain⟨v2,vs2,d2,ds2,p2,q2,rfl,rfl,rfl,h2,r2⟩:=trodAll_cons r1;obtain⟨rfl,rfl,rfl⟩:=trodAll_nil r2;obtain rfl:args = #[v0,v1,v2]:=by cases args;simp_all
 obtain⟨rfl,rfl⟩:=trodVars_none hV;obtain⟨c,rfl,rfl,rfl,wc⟩:=open_int Tryz.underlying5 (hval 0 5 v0 rfl rfl) h0;obtain⟨l,hl⟩:=zhl (hval 1 111 v1 rfl rfl) h1;obtain⟨inl,hin⟩:=ints_of (hval 2 44 v2 rfl rfl) h2;obtain⟨n1,rfl⟩:=Int.eq_ofNat_of_zero_le (small _ wc).1;have hs1:=(small _ wc).2;refine(zg3 n1 (by omega) v1 v2 l inl W hl hin).mono fun e W' ⟨he,hg⟩=>?_
 subst he
 exact⟨_,rfl,Go.Sf.post_of_grown (pv:=[]) hW' (fun _ _ _=>(trodAll_cons_mk (shut_bool Tryz.underlying4 _) trodAll_mk0))
  (fun sp hsp=>DataW.TrodAll.respare kids full (by rw[Tryz.params12];decide) (zc1 hg hAk (fun p hp=>hlt p (by simpa using hp))) (fun p hp=>hsp p (by simpa using hp))) (fun _ _=>rfl) (by simp)
  hg (ok_one (by kernel_rfl) rfl (okWide_bool_mk Tryz.underlying4 _))⟩
theorem k1:Rows.vaultKeepsRow.wf (OpenSpec.ofChange Rows.vaultKeepsSpec)=true:=by kernel_rfl
theorem k2:laidOutB Tryz.prog=true:=by kernel_rfl
theorem k3:mapsRowed Tryz.prog=true:=by kernel_rfl
theorem k10:(Rows.vaultKeepsRow.inPlace == Tryz.prog.inPlace 12)=true:=by kernel_rfl
theorem k11:(Rows.vaultKeepsRow.unfollowed == Tryz.prog.unfollowed 12)=true:=by kernel_rfl
theorem k12:(Rows.vaultKeepsRow.recurses == Tryz.prog.recurses 12)=true:=by kernel_rfl
theorem k13:(Rows.vaultKeepsRow.named == Tryz.prog.varsNamed 12)=true:=by kernel_rfl
theorem k23:Tryz.prog.stopsHeard=true:=by kernel_rfl
theorem k24:Tryz.prog.mayEnter=true:=by kernel_rfl
theorem k25:(Rows.vaultKeepsRow.lifted == Tryz.prog.liftsFinal)=true:=by kernel_rfl
theorem k26:(Tryz.prog.make == some Rows.vaultKeepsRow.make)=true:=by kernel_rfl
theorem zl3:joinedFacts Tryz.prog 12 Tryz.f12 Rows.vaultKeepsSpec Rows.vaultKeepsRow=true:=by
 unfold joinedFacts;rw[k1,k2,k3,k10,k11,k12,k13,k23,k24,k25,k26]
 kernel_rfl
theorem proved:Rows.VaultKeepsSaid:=
 OpenClaim.holds_of_wide 12 Tryz.f12 rfl rfl rfl rfl rfl rfl rfl ⟨rfl,rfl,rfl,rfl,rfl⟩ rfl rfl rfl rfl rfl (by kernel_rfl) Tryz.func12 zl3
  (of_decide_eq_true (by kernel_rfl)) (by unfold Func.isWrapper;first|(rw[if_pos (by decide +kernel)];kernel_rfl)|(rw[if_neg (by decide +kernel)];exact⟨rfl,rfl⟩))
  (fun os started H enc _=>lifted os started H enc)
#print axioms proved
end Go.Proofs.YtbcbhlfjgobejaaGreat.vaultKeeps
