/- SlotsKnown: it answers true. Conditions: none, or as the theorems say. -/
import Derived.Test.YtbcbhlfjgobejaaGreatRows
import Derived.Test.YtbcbhlfjgobejaaGreatS49
import Derived.WalkKit
import Derived.ProofKit
import Derived.OpenShut
set_option linter.unusedSimpArgs false
set_option linter.unusedVariables false
namespace Go.Proofs.YtbcbhlfjgobejaaGreat.slotsKnown
set_option maxHeartbeats 200000000
open Go.ChangeShapes Go.WideShapes Go.ChangeAt Go.RowKit
theorem own:ownKnob Tryz.prog.godebug=none:=by kernel_rfl
set_option maxRecDepth 100000 in
theorem lifted (os:Os) (started:os.Started) (H:Type) (enc:TypeId × Value→H) :
  ReturnsInHanded {} Tryz.checked os 7 .any (Rows.slotsKnownSpec.pre6 enc Tryz.prog Tryz.f7 Rows.slotsKnownRow.domain false) (Rows.slotsKnownSpec.post enc Tryz.prog Tryz.f7 false true false false):=by
 refine returnsInHanded_of_change (C:=Tryz.checked) own started (by kernel_rfl) Tryz.func7
  (ChangeSpec.witness6 (enc:=enc) (C:=Tryz.checked) false ⟨#[],#[],[]⟩ 8 (by kernel_rfl) (by kernel_rfl) (by kernel_rfl) (by kernel_rfl)) ?_
 intro W base args ds gs before hval0 hW _ _;have hW':=hW;obtain⟨p,q,hA0,hV,rfl,_,_⟩:=hW;have hA:DataW.TrodAll enc Tryz.prog W 0 (λ_=>true) true Tryz.f7.params.toList args.toList ds p:=hA0
 rw[Tryz.params7] at hA;obtain⟨hargs,rfl,rfl⟩:=trodAll_nil hA;obtain rfl:args = #[]:=by cases args;simp_all
 obtain⟨rfl,rfl⟩:=trodVars_none hV;refine(zki W).mono λe W' ⟨he,hg⟩=>?_
 subst he
 exact⟨_,rfl,Go.Sf.post_of_grown (pv:=[]) hW' (λ_ _ _=>(trodAll_cons_mk (shut_bool Tryz.underlying4 _) trodAll_mk0))
  (λsp hsp=>by rw[Tryz.params7];exact trodAll_mk0) (λ_ _=>rfl) (by simp)
  hg (ok_one (by kernel_rfl) rfl (okWide_bool_mk Tryz.underlying4 _))⟩
theorem k1:Rows.slotsKnownRow.wf (OpenSpec.ofChange Rows.slotsKnownSpec)=true:=by kernel_rfl
theorem k2:laidOutB Tryz.prog=true:=by kernel_rfl
theorem k3:mapsRowed Tryz.prog=true:=by kernel_rfl
theorem k10:(Rows.slotsKnownRow.inPlace == Tryz.prog.inPlace 7)=true:=by kernel_rfl
theorem k11:(Rows.slotsKnownRow.unfollowed == Tryz.prog.unfollowed 7)=true:=by kernel_rfl
theorem k12:(Rows.slotsKnownRow.recurses == Tryz.prog.recurses 7)=true:=by kernel_rfl
theorem k13:(Rows.slotsKnownRow.named == Tryz.prog.varsNamed 7)=true:=by kernel_rfl
theorem k23:Tryz.prog.stopsHeard=true:=by kernel_rfl
theorem k24:Tryz.prog.mayEnter=true:=by kernel_rfl
theorem k25:(Rows.slotsKnownRow.lifted == Tryz.prog.liftsFinal)=true:=by kernel_rfl
theorem k26:(Tryz.prog.make == some Rows.slotsKnownRow.make)=true:=by kernel_rfl
theorem zo3:joinedFacts Tryz.prog 7 Tryz.f7 Rows.slotsKnownSpec Rows.slotsKnownRow=true:=by
 unfold joinedFacts;rw[k1,k2,k3,k10,k11,k12,k13,k23,k24,k25,k26]
 kernel_rfl
theorem proved:Rows.SlotsKnownSaid:=
 OpenClaim.holds_of_wide 7 Tryz.f7 rfl rfl rfl rfl rfl rfl rfl ⟨rfl,rfl,rfl,rfl,rfl⟩ rfl rfl rfl rfl rfl (by kernel_rfl) Tryz.func7 zo3
  (of_decide_eq_true (by kernel_rfl)) (by unfold Func.isWrapper;first|(rw[if_pos (by decide +kernel)];kernel_rfl)|(rw[if_neg (by decide +kernel)];exact⟨rfl,rfl⟩))
  (λos started H enc _=>lifted os started H enc)
#print axioms proved
end Go.Proofs.YtbcbhlfjgobejaaGreat.slotsKnown
