/- What came in, as it reads; and that it reads behind a call that leaves old memory as it did. Conditions: none, or as the theorems say. -/
import Derived.Test.YtbcbhlfjgobejaaGreatRows
import Derived.Test.YtbcbhlfjgobejaaGreatM25
import Derived.Test.YtbcbhlfjgobejaaGreatM45
import Derived.WalkKit
import Derived.ProofKit
import Derived.OpenShut
import Derived.Deep.Slices
import Derived.Deep.Fields
import Derived.ChangeSame
import Derived.ReadAgain
import Derived.ChangeBears
import Derived.Lib.SmallJoins
import Derived.Test.YtbcbhlfjgobejaaGreatM26
import Derived.Test.YtbcbhlfjgobejaaGreatM44
set_option linter.unusedSimpArgs false
set_option linter.unusedVariables false
namespace Go.Proofs.YtbcbhlfjgobejaaGreat
set_option maxHeartbeats 200000000
open Go.ChangeShapes Go.WideShapes Go.ChangeAt Go.RowKit Go.Deep Go.Sf Go.Joins
section
variable {H : Type} {enc : TypeId × Value → H} {P : Program} {w : World} {base : Nat} {spare : Nat → Bool} {held : Bool}
theorem Ut {t e:TypeId} {fs:Array Field} {fuel:Nat} {cs:List Value} {x:DataW H × List MemPlace} (ht:P.underlying t=some (.slice e)) (he:P.underlying e=some (.struct fs))
  (hone:oneCellFields P fs=true) (hC:P.cellsOf e=fs.size) (h:DataW.trod enc P w base spare held fuel t cs=some x) :
  (cs = [.slice none 0 0]∧x=(.nil,[]))∨
  ∃(a:Addr) (len cap m:Nat) (D:Nat→DataW H) (Pl:Nat→List MemPlace),cs = [.slice (some a) len cap]∧base≤a.block∧len≤cap∧cap≤maxLen∧m=(if spare a.block then cap else len)∧
   x=(.slice ((List.range len).map D) ((List.range (m-len)).map fun j=>D (len+j)),MemPlace.row a (m*fs.size)++(List.range m).flatMap Pl)∧
   ∀i,i<m→∃(ys:List (DataW H × List MemPlace)) (n:Nat),D i = .agg (ys.map (·.1))∧Pl i=ys.flatMap (·.2)∧ys.length=fs.size∧
    ∀(j:Nat) (f:Field),fs[j]? = some f→∃(v:Value) (y:DataW H × List MemPlace),w.cell? (a.add (i*fs.size+j))=some v∧ys[j]? = some y∧DataW.trod enc P w base spare held n f.type [v]=some y:=by
 rcases open_slice ht h with h0|⟨a,len,cap,m,n,D,Pl,hcs,hb,hl,hm,hmm,hx,hi⟩
 ·exact .inl h0
 ·refine .inr ⟨a,len,cap,m,D,Pl,hcs,hb,hl,hm,hmm,by rw[hC] at hx;exact hx,fun i him=>?_⟩
  obtain⟨cs',hc,ht'⟩:=hi i him;rw[hC] at hc;obtain⟨ys,n',hn',hy,hlen,hyl,hf⟩:=DataW.trod_struct he ht';obtain⟨_,hcl,hat⟩:=World.cells?_some hc;simp only[Prod.mk.injEq] at hy;refine⟨ys,n',hy.1,hy.2,hyl,fun j f hj=>?_⟩
  obtain⟨ho,hk⟩:=hone_of hone j f hj;have hjl:j<fs.size:=(Array.getElem?_eq_some_iff.1 hj).1;have hcell:=hat j hjl;have hv:cs'[j]? = some (cs'[j]'(by omega)):=List.getElem?_eq_getElem (by omega)
  have h1:=hf j f hj;rw[ho,hk] at h1;have hone':(cs'.drop j).take 1 = [cs'[j]'(by omega)]:=by
   rw[List.drop_eq_getElem_cons (by omega)]
   rfl
  rw[hone'] at h1;have hys:ys[j]? = some (ys[j]'(by omega)):=List.getElem?_eq_getElem (by omega)
  refine⟨_,_,?_,hys,h1.trans hys⟩;rw[←Go.Deep.add_add,hcell,hv]
end
section
variable {H : Type} {enc : TypeId × Value → H} {P : Program} {w w' : World} {base : Nat} {spare : Nat → Bool} {held : Bool}
theorem zhi (hg:w.grownBy w' none) {p:MemPlace} (hp:p.block<w.heap.size):w.sameAt w' p:=by
 cases p with
 | cell b off=>exact World.cell?_of_block (a:=⟨b,off,none⟩) (hg.block b hp (by simp))
 | map b=>exact hg.block b hp (by simp)
theorem zce (hg:w.grownBy w' none):∀{ts:List TypeId} {vs:List Value} {ds:List (DataW H)} {ps:List MemPlace},DataW.TrodAll enc P w base spare held ts vs ds ps→(∀p∈ps,p.block<w.heap.size)→DataW.TrodAll enc P w' base spare held ts vs ds ps
 | [],[],[],_,h,_=>h
 | _ :: _,_ :: _,_ :: _,_,⟨p,q,⟨n,h1⟩,h2,e⟩,hs=>⟨p,q,⟨n,DataW.trod_carry n _ _ _ h1 (fun x hx=>zhi hg (hs x (by rw[e];exact List.mem_append_left _ hx)))⟩,zce hg h2 (fun x hx=>hs x (by rw[e];exact List.mem_append_right _ hx)),e⟩
end
theorem kids:Kids Tryz.prog (·< Tryz.prog.types.size):=kids_rows (by kernel_rfl) (by kernel_rfl)
theorem full:∀t e,t<Tryz.prog.types.size→Tryz.prog.underlying t=some (.slice e)→0<Tryz.prog.cellsOf e:=slices_full_of Tryz.prog (by kernel_rfl)
open Go.RowKit Go.Sf Go.Shelf
set_option maxRecDepth 100000 in
theorem zgs {H:Type} {enc:TypeId × Value→H} {W:World} {v:Value} {fuel:Nat} {x:DataW H × List MemPlace} (hf:DataW.trod enc Tryz.prog W 0 (fun _=>true) true fuel 32 [v]=some x) :
  ∃l q cap,v = .slice q l.length cap∧yc W v l∧BL l∧l.length≤9223372036854775807:=by
 rcases open_ints Tryz.underlying32 Tryz.underlying5 (by kernel_rfl) hf with ⟨hcs,_⟩|⟨a,len,cap,zs,hcs,_,hl,hm,hz,_,hcell,hwz⟩
 ·obtain rfl:v = .slice none 0 0:=by simpa using hcs
  exact⟨[],none,0,rfl,⟨none,0,rfl,Or.inl rfl⟩,fun b hb=>by simp at hb,by simp⟩
 ·obtain rfl:v = .slice (some a) len cap:=by simpa using hcs
  simp only[if_true] at hz;unfold maxLen at hm;have hlen:(zs.take len).length=len:=by rw[List.length_take];omega
  refine⟨zs.take len,some a,cap,by rw[hlen],⟨some a,cap,by rw[hlen],?_⟩,fun b hb=>?_,by rw[hlen];omega⟩
  ·rcases Nat.eq_zero_or_pos len with h0|h0
   ·left;subst h0;rfl
   ·refine Or.inr ⟨a,rfl,fun j u hu=>?_⟩
    have hj:j<len:=by
     have:=(List.getElem?_eq_some_iff.1 hu).1;simp only[zi,List.length_map,hlen] at this
     exact this
    rw[hcell j (by omega),←hu]
    have hjz:j<zs.length:=by omega
    simp[zi,hj,List.getD,List.getElem?_take,List.getElem?_eq_getElem hjz]
  ·have:=hwz b (List.mem_of_mem_take hb)
   have h2:0≤b∧b≤255:=by simpa[Lit.wf,IntKind.min,IntKind.max,IntKind.signed,IntKind.bits] using this
   omega
theorem ziw {W:World} {a:Addr} {u:Value} (h:W.cell? a=some u):∃b off,a=⟨b,off,none⟩:=by
 obtain⟨b,off,fr⟩:=a
 cases fr with
 | none=>exact⟨b,off,rfl⟩
 | some q=>
  exfalso
  unfold World.cell? at h
  split at h <;> simp at h
set_option maxRecDepth 100000 in
theorem Jn {H:Type} {enc:TypeId × Value→H} {W:World} {v:Value} {fuel:Nat} {x:DataW H × List MemPlace} (hf:DataW.trod enc Tryz.prog W 0 (fun _=>true) true fuel 32 [v]=some x) :
  ∃l q cap,v = .slice q l.length cap∧ye (fun k=>k<W.heap.size) W v (zi l)∧BL l∧l.length≤9223372036854775807:=by
 rcases open_ints Tryz.underlying32 Tryz.underlying5 (by kernel_rfl) hf with ⟨hcs,_⟩|⟨a,len,cap,zs,hcs,_,hl,hm,hz,_,hcell,hwz⟩
 ·obtain rfl:v = .slice none 0 0:=by simpa using hcs
  exact⟨[],none,0,rfl,⟨none,0,rfl,by simp[zi],by decide,Or.inl rfl⟩,fun b hb=>by simp at hb,by simp⟩
 ·obtain rfl:v = .slice (some a) len cap:=by simpa using hcs
  simp only[if_true] at hz;unfold maxLen at hm;have hlen:(zs.take len).length=len:=by rw[List.length_take];omega
  refine⟨zs.take len,some a,cap,by rw[hlen],⟨some a,cap,by rw[zx,hlen],by rw[zx,hlen];omega,by omega,?_⟩,fun b hb=>?_,by rw[hlen];omega⟩
  ·rcases Nat.eq_zero_or_pos len with h0|h0
   ·left;subst h0;rfl
   ·have hce:∀j u,(zi (zs.take len))[j]? = some u→W.cell? (a.add j)=some u:=fun j u hu=>by
     have hj:j<len:=by
      have:=(List.getElem?_eq_some_iff.1 hu).1;simp only[zi,List.length_map,hlen] at this
      exact this
     rw[hcell j (by omega),←hu]
     have hjz:j<zs.length:=by omega
     simp[zi,hj,List.getD,List.getElem?_eq_getElem hjz]
    refine Or.inr ⟨a,rfl,?_,hce⟩;have hz0:0<zs.length:=by omega
    have h5:=hce 0 (.int .u8 zs[0]) (by simp[zi,h0])
    have h6:=xg h5
    rwa [show(a.add 0).block=a.block by unfold Addr.add;split <;> rfl] at h6
  ·have:=hwz b (List.mem_of_mem_take hb)
   have h2:0≤b∧b≤255:=by simpa[Lit.wf,IntKind.min,IntKind.max,IntKind.signed,IntKind.bits] using this
   omega
set_option maxRecDepth 100000 in
theorem zj5 {H:Type} {enc:TypeId × Value→H} {W:World} {base:Nat} {v:Value} {d:DataW H} {p:List MemPlace} (hval:Value.okWide Tryz.prog W .any base 91 v) (h:DataW.Trod enc Tryz.prog W 0 (fun _=>true) true 91 v d p) :
  ∃l,ShIn W v l:=by
 obtain⟨a1,len1,cap1,rfl⟩:=okWide_slice Tryz.underlying91 hval;obtain⟨fuel,hf⟩:=h
 rcases Ut Tryz.underlying91 Tryz.underlying97 (by kernel_rfl) (by kernel_rfl) hf with ⟨h1,_⟩|⟨a,len,cap,m,D,Pl,h1,_,hlc,hcm,hm,_,hcell⟩
 ·simp[Value.cells] at h1
  obtain⟨rfl,rfl,rfl⟩:=h1
  exact⟨[],none,0,rfl,by simp,by simp,Or.inl rfl⟩
 ·simp[Value.cells] at h1
  obtain⟨rfl,rfl,rfl⟩:=h1;have hm':m=cap1:=by simpa using hm
  have hC:∀i,∃c:ShX,i<len1→zh6 W c∧∀j u,(shXC c)[j]? = some u→W.cell? (a.add (i*4+j))=some u:=by
   intro i
   by_cases hi:i<len1
   ·obtain⟨ys,n,_,_,_,hf⟩:=hcell i (by omega)
    obtain⟨u0,y0,k0,_,t0⟩:=hf 0 _ rfl;obtain⟨u1,y1,k1,_,t1⟩:=hf 1 _ rfl;obtain⟨u2,y2,k2,_,t2⟩:=hf 2 _ rfl;obtain⟨u3,y3,k3,_,t3⟩:=hf 3 _ rfl;obtain⟨l0,q0,c0,e0,r0,b0,n0⟩:=Jn t0;obtain⟨x1,e1,_,w1⟩:=DataW.trod_int Tryz.underlying2 t1;obtain⟨x2,e2,_,w2⟩:=DataW.trod_int Tryz.underlying3 t2;obtain⟨l3,q3,c3,e3,r3,b3,n3⟩:=Jn t3;simp only[List.cons.injEq,and_true] at e1 e2;subst e0 e1 e2 e3;have h1 : -9223372036854775808≤x1∧x1≤9223372036854775807:=by simpa[Lit.wf,IntKind.min,IntKind.max,IntKind.signed,IntKind.bits] using w1
    refine⟨⟨⟨l0,x1,x2,l3⟩,q0,c0,q3,c3⟩,fun _=>⟨⟨r0,r3,⟨b0,b3⟩,h1,n0,n3⟩,fun j u hu=>?_⟩⟩
    match j,hu with
    | 0,hu=>cases hu;exact k0
    | 1,hu=>cases hu;exact k1
    | 2,hu=>cases hu;exact k2
    | 3,hu=>cases hu;exact k3
    | j+4,hu=>simp[shXC] at hu
   ·exact⟨shXD,fun h=>absurd h hi⟩
  obtain⟨C,hC⟩:=Classical.axiomOfChoice hC;unfold maxLen at hcm;refine⟨(List.range len1).map C,some a,cap1,by simp,by simp;omega,fun c hc=>?_,?_⟩
  ·obtain⟨i,hi,rfl⟩:=List.mem_map.1 hc
   exact(hC i (List.mem_range.1 hi)).1
  ·rcases Nat.eq_zero_or_pos len1 with h0|h0
   ·left;subst h0;rfl
   ·right
    have hz:=(hC 0 h0).2 0 _ rfl;obtain⟨b,off,rfl⟩:=ziw (W:=W) (a:=a) (u:=.slice (C 0).kp (C 0).s.key.length (C 0).kc) (by rw[←hz];simp[Addr.add])
    refine⟨b,off,rfl,fun i hi j u hu=>?_⟩
    have hi':i<len1:=by simpa using hi
    have hget:((List.range len1).map C).getD i shXD=C i:=by simp[List.getD_eq_getElem?_getD,hi']
    rw[hget] at hu;have:=(hC i hi').2 j u hu;rw[zko,←Nat.add_assoc] at this
    exact this
set_option maxRecDepth 100000 in
theorem ziy {H:Type} {enc:TypeId × Value→H} {W:World} {base:Nat} {v:Value} {d:DataW H} {p:List MemPlace} (hval:Value.okWide Tryz.prog W .any base 32 v) (h:DataW.Trod enc Tryz.prog W 0 (fun _=>true) true 32 v d p) :
  ∃l,yc W v l∧BL l∧l.length≤9223372036854775807:=by
 obtain⟨a1,len1,cap1,rfl⟩:=okWide_slice Tryz.underlying32 hval;obtain⟨fuel,hf⟩:=h;obtain⟨l,q,cap,e,h1,h2,h3⟩:=zgs (v:=.slice a1 len1 cap1) (by simpa[Value.cells] using hf)
 exact⟨l,h1,h2,h3⟩
end Go.Proofs.YtbcbhlfjgobejaaGreat
