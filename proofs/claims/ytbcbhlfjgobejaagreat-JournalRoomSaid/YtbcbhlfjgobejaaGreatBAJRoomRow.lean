/- JournalRoom: whatever its arguments are, it answers true, and they read as they did. Conditions: none. -/
import Derived.Test.YtbcbhlfjgobejaaGreatRows
import Derived.Test.YtbcbhlfjgobejaaGreatB35
import Derived.Test.YtbcbhlfjgobejaaGreatB36
import Derived.Test.YtbcbhlfjgobejaaGreatB37
import Derived.WalkKit
import Derived.ProofKit
import Derived.OpenShut
set_option linter.unusedSimpArgs false
set_option linter.unusedVariables false
namespace Go.Proofs.YtbcbhlfjgobejaaGreat.journalRoom
open Go.ChangeShapes Go.WideShapes Go.ChangeAt Go.RowKit Go.Deep Go.Sf Go.Joins
theorem own:ownKnob Tryz.prog.godebug=none:=by kernel_rfl
theorem small (a:Int) (h:(Lit.int .u16 a).wf=true):0≤a∧a≤65535:=by
 simpa[Lit.wf,IntKind.min,IntKind.max,IntKind.signed,IntKind.bits] using h
set_option maxRecDepth 100000 in
theorem lifted (os:Os) (started:os.Started) (H:Type) (enc:TypeId × Value→H) :
  ReturnsInHanded {} Tryz.checked os 8 .any (Rows.journalRoomSpec.pre6 enc Tryz.prog Tryz.f8 Rows.journalRoomRow.domain false) (Rows.journalRoomSpec.post enc Tryz.prog Tryz.f8 false true false false):=by
 refine returnsInHanded_of_change (C:=Tryz.checked) own started (by kernel_rfl) Tryz.func8
  (ChangeSpec.witness6 (enc:=enc) (C:=Tryz.checked) false ⟨#[],#[.slice none 0 0,.int .u16 0],[]⟩ 8 (by kernel_rfl) (by kernel_rfl) (by kernel_rfl) (by kernel_rfl)) ?_
 intro W base args ds gs before hval0 hW _ _
 have hval:∀(j:Nat) t v,Tryz.f8.params[j]? = some t→args[j]? = some v→Value.okWide Tryz.prog W .any base t v:=hval0
 have hW':=hW
 have hlt:∀p∈before,p.block<W.heap.size:=fun p hp=>hW.lt p hp
 obtain⟨p,q,hA0,hV,rfl,_,_⟩:=hW
 have hA:DataW.TrodAll enc Tryz.prog W 0 (fun _=>true) true Tryz.f8.params.toList args.toList ds p:=hA0
 have hAk:=hA
 rw[Tryz.params8] at hA hval
 obtain⟨v0,vs0,d0,ds0,p0,q0,hargs,rfl,rfl,h0,r0⟩:=trodAll_cons hA
 obtain⟨v1,vs1,d1,ds1,p1,q1,rfl,rfl,rfl,h1,r1⟩:=trodAll_cons r0
 obtain⟨rfl,rfl,rfl⟩:=trodAll_nil r1
 obtain rfl:args = #[v0,v1]:=by cases args;simp_all
 obtain⟨rfl,rfl⟩:=trodVars_none hV
 obtain⟨c,rfl,rfl,rfl,wc⟩:=open_int Tryz.underlying72 (hval 1 72 v1 rfl rfl) h1
 obtain⟨l,q0,cap,rfl,hlx,hlc⟩:=shorts_of (hval 0 71 v0 rfl rfl) h0
 refine(jroom q0 l.length cap l c rfl hlc hlx (small _ wc) works21_any).mono fun e W' ⟨he,hg⟩=>?_
 subst he
 exact⟨_,rfl,Go.Sf.post_of_grown (pv:=[]) hW' (fun _ _ _=>(trodAll_cons_mk (shut_bool Tryz.underlying4 _) trodAll_mk0))
  (fun sp hsp=>DataW.TrodAll.respare kids full (by rw[Tryz.params8];decide) (all_carry hg hAk (fun p hp=>hlt p (by simpa using hp))) (fun p hp=>hsp p (by simpa using hp))) (fun _ _=>rfl) (by simp)
  hg (ok_one (by kernel_rfl) rfl (okWide_bool_mk Tryz.underlying4 _))⟩
theorem k1:Rows.journalRoomRow.wf (OpenSpec.ofChange Rows.journalRoomSpec)=true:=by kernel_rfl
theorem k2:laidOutB Tryz.prog=true:=by kernel_rfl
theorem k3:mapsRowed Tryz.prog=true:=by kernel_rfl
theorem k10:(Rows.journalRoomRow.inPlace == Tryz.prog.inPlace 8)=true:=by kernel_rfl
theorem k11:(Rows.journalRoomRow.unfollowed == Tryz.prog.unfollowed 8)=true:=by kernel_rfl
theorem k12:(Rows.journalRoomRow.recurses == Tryz.prog.recurses 8)=true:=by kernel_rfl
theorem k13:(Rows.journalRoomRow.named == Tryz.prog.varsNamed 8)=true:=by kernel_rfl
theorem k23:Tryz.prog.stopsHeard=true:=by kernel_rfl
theorem k24:Tryz.prog.mayEnter=true:=by kernel_rfl
theorem k25:(Rows.journalRoomRow.lifted == Tryz.prog.liftsFinal)=true:=by kernel_rfl
theorem k26:(Tryz.prog.make == some Rows.journalRoomRow.make)=true:=by kernel_rfl
theorem joined:joinedFacts Tryz.prog 8 Tryz.f8 Rows.journalRoomSpec Rows.journalRoomRow=true:=by
 unfold joinedFacts
 rw[k1,k2,k3,k10,k11,k12,k13,k23,k24,k25,k26]
 kernel_rfl
theorem proved:Rows.JournalRoomSaid:=
 OpenClaim.holds_of_wide 8 Tryz.f8 rfl rfl rfl rfl rfl rfl rfl ⟨rfl,rfl,rfl,rfl,rfl⟩ rfl rfl rfl rfl rfl (by kernel_rfl) Tryz.func8 joined
  (of_decide_eq_true (by kernel_rfl)) (by unfold Func.isWrapper;first|(rw[if_pos (by decide +kernel)];kernel_rfl)|(rw[if_neg (by decide +kernel)];exact⟨rfl,rfl⟩))
  (fun os started H enc _=>lifted os started H enc)
#print axioms proved
end Go.Proofs.YtbcbhlfjgobejaaGreat.journalRoom
