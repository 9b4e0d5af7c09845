/- TableBytes: whatever its arguments are, it answers true, and they read as they did. Conditions: none. -/
import Derived.Test.YtjfelfjobeeenaaGreatRows
import Derived.Test.YtjfelfjobeeenaaGreatP43
import Derived.Lib.SmallJoins
import Derived.WalkKit
import Derived.ProofKit
import Derived.OpenShut
import Derived.Deep.Slices
import Derived.Deep.Fields
import Derived.ChangeSame
import Derived.ReadAgain
import Derived.ChangeBears
import Derived.Test.YtjfelfjobeeenaaGreatP44
namespace Go.Proofs.YtjfelfjobeeenaaGreat.tableBytes
set_option linter.unusedVariables false
set_option linter.unusedSimpArgs false
open Go.ChangeShapes Go.WideShapes Go.ChangeAt Go.RowKit Go.Deep Go.Sf Go.Joins
open Go.ChangeMaps (open_string shut_string)
theorem own:ownKnob Tryz.prog.godebug=none:=by kernel_rfl
set_option maxRecDepth 100000 in
theorem bytes_of {H:Type} {enc:TypeId × Value→H} {W:World} {base:Nat} {v:Value} {d:DataW H} {p:List MemPlace} (hval:Value.okWide Tryz.prog W .any base 25 v) (h:DataW.Trod enc Tryz.prog W 0 (fun _=>true) true 25 v d p) :
  ∃l q cap,v = .slice q l.length cap∧BRow W.heap.size W v l∧BL l∧l.length≤9223372036854775807:=by
 obtain⟨a1,len,cap,rfl⟩:=okWide_slice Tryz.underlying25 hval
 obtain⟨fuel,hf⟩:=h
 rcases open_ints Tryz.underlying25 Tryz.underlying5 (by kernel_rfl) hf with ⟨hcs,_⟩|⟨a,len',cap',zs,hcs,_,hl,hm,hz,_,hcell,hwz⟩
 ·simp[Value.cells] at hcs
  obtain⟨rfl,rfl,rfl⟩:=hcs
  exact⟨[],none,0,rfl,⟨none,0,rfl,by simp,by omega,Or.inl rfl⟩,fun b hb=>by simp at hb,by simp⟩
 ·simp[Value.cells] at hcs
  obtain⟨rfl,rfl,rfl⟩:=hcs
  simp only[if_true] at hz
  unfold maxLen at hm
  have hlen:(zs.take len).length=len:=by rw[List.length_take];omega
  refine⟨zs.take len,some a,cap,by rw[hlen],⟨some a,cap,by rw[hlen],by rw[hlen];exact hl,hm,?_⟩,fun b hb=>?_,by rw[hlen];omega⟩
  ·rcases Nat.eq_zero_or_pos len with h0|h0
   ·left;subst h0;rfl
   ·refine Or.inr ⟨a,rfl,?_,fun j u hu=>?_⟩
    ·have hb:=cell_lt (hcell 0 (by omega))
     have:(a.add 0).block=a.block:=by unfold Addr.add;split <;> rfl
     rw[this] at hb
     exact hb
    ·have hj:j<len:=by
      have:=(List.getElem?_eq_some_iff.1 hu).1
      simp only[bytesV,List.length_map,hlen] at this
      exact this
     rw[hcell j (by omega),←hu]
     have hjz:j<zs.length:=by omega
     simp[bytesV,hj,List.getD,List.getElem?_take,List.getElem?_eq_getElem hjz]
  ·have:=hwz b (List.mem_of_mem_take hb)
   have h2:0≤b∧b≤255:=by simpa[Lit.wf,IntKind.min,IntKind.max,IntKind.signed,IntKind.bits] using this
   omega
theorem small (a:Int) (h:(Lit.int .u8 a).wf=true):0≤a∧a≤255:=by
 simpa[Lit.wf,IntKind.min,IntKind.max,IntKind.signed,IntKind.bits] using h
set_option maxRecDepth 100000 in
theorem lifted (os:Os) (started:os.Started) (H:Type) (enc:TypeId × Value→H) :
  ReturnsInHanded {} Tryz.checked os 8 .any (Rows.tableBytesSpec.pre6 enc Tryz.prog Tryz.f8 Rows.tableBytesRow.domain false) (Rows.tableBytesSpec.post enc Tryz.prog Tryz.f8 false true false false):=by
 refine returnsInHanded_of_change (C:=Tryz.checked) own started (by kernel_rfl) Tryz.func8
  (ChangeSpec.witness6 (enc:=enc) (C:=Tryz.checked) false ⟨#[],#[.int .u8 0,.int .u8 0,.slice none 0 0,.int .u8 0,.slice none 0 0],[]⟩ 8 (by kernel_rfl) (by kernel_rfl) (by kernel_rfl) (by kernel_rfl)) ?_
 intro W base args ds gs before hval0 hW _ _
 have hval:∀(j:Nat) t v,Tryz.f8.params[j]? = some t→args[j]? = some v→Value.okWide Tryz.prog W .any base t v:=hval0
 have hW':=hW
 have hlt:∀p∈before,p.block<W.heap.size:=fun p hp=>hW.lt p hp
 obtain⟨p,q,hA0,hV,rfl,_,_⟩:=hW
 have hA:DataW.TrodAll enc Tryz.prog W 0 (fun _=>true) true Tryz.f8.params.toList args.toList ds p:=hA0
 have hAk:=hA
 rw[Tryz.params8] at hA hval
 obtain⟨v0,vs0,d0,ds0,p0,q0,hargs,rfl,rfl,h0,r0⟩:=trodAll_cons hA
 obtain⟨v1,vs1,d1,ds1,p1,q1,rfl,rfl,rfl,h1,r1⟩:=trodAll_cons r0
 obtain⟨v2,vs2,d2,ds2,p2,q2,rfl,rfl,rfl,h2,r2⟩:=trodAll_cons r1
 obtain⟨v3,vs3,d3,ds3,p3,q3,rfl,rfl,rfl,h3,r3⟩:=trodAll_cons r2
 obtain⟨v4,vs4,d4,ds4,p4,q4,rfl,rfl,rfl,h4,r4⟩:=trodAll_cons r3
 obtain⟨rfl,rfl,rfl⟩:=trodAll_nil r4
 obtain rfl:args = #[v0,v1,v2,v3,v4]:=by cases args;simp_all
 obtain⟨rfl,rfl⟩:=trodVars_none hV
 obtain⟨nd,rfl,rfl,rfl,wn⟩:=open_int Tryz.underlying5 (hval 0 5 v0 rfl rfl) h0
 obtain⟨wi,rfl,rfl,rfl,ww⟩:=open_int Tryz.underlying5 (hval 1 5 v1 rfl rfl) h1
 obtain⟨na,rfl,rfl,rfl,wa⟩:=open_int Tryz.underlying5 (hval 3 5 v3 rfl rfl) h3
 obtain⟨lb,pb,cb,rfl,hb4,hl4,hn4⟩:=bytes_of (hval 4 25 v4 rfl rfl) h4
 obtain⟨a2,l2,c2,rfl⟩:=okWide_slice Tryz.underlying37 (hval 2 37 v2 rfl rfl)
 obtain⟨fuel,hf⟩:=h2
 obtain⟨l,hrow⟩:=cmdRow_of ⟨_,_,_,rfl⟩ (by simpa[Value.cells] using hf)
 obtain⟨n1,rfl⟩:=Int.eq_ofNat_of_zero_le (small _ wn).1
 obtain⟨n2,rfl⟩:=Int.eq_ofNat_of_zero_le (small _ ww).1
 obtain⟨n3,rfl⟩:=Int.eq_ofNat_of_zero_le (small _ wa).1
 have hs3:=(small _ wa).2
 have hs1:=(small _ wn).2
 have hs2:=(small _ ww).2
 refine(bytes_law n1 n2 n3 (by omega) (by omega) (by omega) _ _ l lb W hrow hb4 hl4).mono fun e W' ⟨he,hg⟩=>?_
 subst he
 exact⟨_,rfl,Go.Sf.post_of_grown (pv:=[]) hW' (fun _ _ _=>(trodAll_cons_mk (shut_bool Tryz.underlying4 _) trodAll_mk0))
  (fun sp hsp=>DataW.TrodAll.respare kids full (by rw[Tryz.params8];decide) (all_carry hg hAk (fun p hp=>hlt p (by simpa using hp))) (fun p hp=>hsp p (by simpa using hp))) (fun _ _=>rfl) (by simp)
  hg (ok_one (by kernel_rfl) rfl (okWide_bool_mk Tryz.underlying4 _))⟩
theorem proved:Rows.TableBytesSaid:=
 OpenClaim.holds_of_wide 8 Tryz.f8 rfl rfl rfl rfl rfl rfl rfl ⟨rfl,rfl,rfl,rfl,rfl⟩ rfl rfl rfl rfl rfl (by kernel_rfl) Tryz.func8 (by kernel_rfl)
  (of_decide_eq_true (by kernel_rfl)) (by unfold Func.isWrapper;first|(rw[if_pos (by decide +kernel)];kernel_rfl)|(rw[if_neg (by decide +kernel)];exact⟨rfl,rfl⟩))
  (fun os started H enc _=>lifted os started H enc)
#print axioms proved
end Go.Proofs.YtjfelfjobeeenaaGreat.tableBytes
