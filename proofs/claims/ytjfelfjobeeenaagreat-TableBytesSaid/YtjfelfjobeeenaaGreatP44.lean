/- A row of commands that came in, as it reads; and that it reads behind a call that leaves old memory as it did. Conditions: none. -/
import Derived.Test.YtjfelfjobeeenaaGreatP42
import Derived.WalkKit
import Derived.ProofKit
import Derived.OpenShut
import Derived.Deep.Slices
import Derived.Deep.Fields
import Derived.ChangeSame
import Derived.ReadAgain
import Derived.ChangeBears
namespace Go.Proofs.YtjfelfjobeeenaaGreat
set_option linter.unusedVariables false
set_option linter.unusedSimpArgs false
open Go.ChangeShapes Go.WideShapes Go.ChangeAt Go.RowKit Go.Deep Go.Sf
section
variable {H : Type} {enc : TypeId × Value → H} {P : Program} {w : World} {base : Nat} {spare : Nat → Bool} {held : Bool}
theorem open_slice_fields {t e:TypeId} {fs:Array Field} {fuel:Nat} {cs:List Value} {x:DataW H × List MemPlace} (ht:P.underlying t=some (.slice e)) (he:P.underlying e=some (.struct fs))
  (hone:oneCellFields P fs=true) (hC:P.cellsOf e=fs.size) (h:DataW.trod enc P w base spare held fuel t cs=some x) :
  (cs = [.slice none 0 0]∧x=(.nil,[]))∨
  ∃(a:Addr) (len cap m:Nat) (D:Nat→DataW H) (Pl:Nat→List MemPlace),cs = [.slice (some a) len cap]∧base≤a.block∧len≤cap∧cap≤maxLen∧m=(if spare a.block then cap else len)∧
   x=(.slice ((List.range len).map D) ((List.range (m-len)).map fun j=>D (len+j)),MemPlace.row a (m*fs.size)++(List.range m).flatMap Pl)∧
   ∀i,i<m→∃(ys:List (DataW H × List MemPlace)) (n:Nat),D i = .agg (ys.map (·.1))∧Pl i=ys.flatMap (·.2)∧ys.length=fs.size∧
    ∀(j:Nat) (f:Field),fs[j]? = some f→∃(v:Value) (y:DataW H × List MemPlace),w.cell? (a.add (i*fs.size+j))=some v∧ys[j]? = some y∧DataW.trod enc P w base spare held n f.type [v]=some y:=by
 rcases open_slice ht h with h0|⟨a,len,cap,m,n,D,Pl,hcs,hb,hl,hm,hmm,hx,hi⟩
 ·exact .inl h0
 ·refine .inr ⟨a,len,cap,m,D,Pl,hcs,hb,hl,hm,hmm,by rw[hC] at hx;exact hx,fun i him=>?_⟩
  obtain⟨cs',hc,ht'⟩:=hi i him
  rw[hC] at hc
  obtain⟨ys,n',hn',hy,hlen,hyl,hf⟩:=DataW.trod_struct he ht'
  obtain⟨_,hcl,hat⟩:=World.cells?_some hc
  simp only[Prod.mk.injEq] at hy
  refine⟨ys,n',hy.1,hy.2,hyl,fun j f hj=>?_⟩
  obtain⟨ho,hk⟩:=hone_of hone j f hj
  have hjl:j<fs.size:=(Array.getElem?_eq_some_iff.1 hj).1
  have hcell:=hat j hjl
  have hv:cs'[j]? = some (cs'[j]'(by omega)):=List.getElem?_eq_getElem (by omega)
  have h1:=hf j f hj
  rw[ho,hk] at h1
  have hone':(cs'.drop j).take 1 = [cs'[j]'(by omega)]:=by
   rw[List.drop_eq_getElem_cons (by omega)]
   rfl
  rw[hone'] at h1
  have hys:ys[j]? = some (ys[j]'(by omega)):=List.getElem?_eq_getElem (by omega)
  refine⟨_,_,?_,hys,h1.trans hys⟩
  rw[←Go.Deep.add_add,hcell,hv]
end
section
variable {H : Type} {enc : TypeId × Value → H} {P : Program} {w w' : World} {base : Nat} {spare : Nat → Bool} {held : Bool}
theorem same_grown (hg:w.grownBy w' none) {p:MemPlace} (hp:p.block<w.heap.size):w.sameAt w' p:=by
 cases p with
 | cell b off=>exact World.cell?_of_block (a:=⟨b,off,none⟩) (hg.block b hp (by simp))
 | map b=>exact hg.block b hp (by simp)
theorem all_carry (hg:w.grownBy w' none):∀{ts:List TypeId} {vs:List Value} {ds:List (DataW H)} {ps:List MemPlace},DataW.TrodAll enc P w base spare held ts vs ds ps→(∀p∈ps,p.block<w.heap.size)→DataW.TrodAll enc P w' base spare held ts vs ds ps
 | [],[],[],_,h,_=>h
 | _ :: _,_ :: _,_ :: _,_,⟨p,q,⟨n,h1⟩,h2,e⟩,hs=>⟨p,q,⟨n,DataW.trod_carry n _ _ _ h1 (fun x hx=>same_grown hg (hs x (by rw[e];exact List.mem_append_left _ hx)))⟩,all_carry hg h2 (fun x hx=>hs x (by rw[e];exact List.mem_append_right _ hx)),e⟩
end
theorem kids:Kids Tryz.prog (·< Tryz.prog.types.size):=kids_rows (by kernel_rfl) (by kernel_rfl)
theorem full:∀t e,t<Tryz.prog.types.size→Tryz.prog.underlying t=some (.slice e)→0<Tryz.prog.cellsOf e:=slices_full_of Tryz.prog (by kernel_rfl)
theorem cmdRow_of {H:Type} {enc:TypeId × Value→H} {W:World} {v:Value} {fuel:Nat} {x:DataW H × List MemPlace} (hv:∃a len cap,v = .slice a len cap) (h:DataW.trod enc Tryz.prog W 0 (fun _=>true) true fuel 37 [v]=some x):∃l,CmdRow W W.heap.size v l:=by
 rcases open_slice_fields Tryz.underlying37 Tryz.underlying24 (by kernel_rfl) (by kernel_rfl) h with ⟨h1,_⟩|⟨a,len,cap,m,D,Pl,h1,_,hlc,hcm,hm,_,hcell⟩
 ·have:v = .slice none 0 0:=by simpa using h1
  subst this
  exact⟨[],none,0,rfl,by simp,by simp,Or.inl rfl⟩
 ·have:v = .slice (some a) len cap:=by simpa using h1
  subst this
  have hm':m=cap:=by simpa using hm
  have hC:∀i,∃c:Cmd,i<len→(c.key.size:Int)≤9223372036854775807∧∀j u,(cmdCells c)[j]? = some u→W.cell? (a.add (i*8+j))=some u:=by
   intro i
   by_cases hi:i<len
   ·obtain⟨ys,n,_,_,_,hf⟩:=hcell i (by omega)
    obtain⟨u0,y0,k0,_,t0⟩:=hf 0 _ rfl
    obtain⟨u1,y1,k1,_,t1⟩:=hf 1 _ rfl
    obtain⟨u2,y2,k2,_,t2⟩:=hf 2 _ rfl
    obtain⟨u3,y3,k3,_,t3⟩:=hf 3 _ rfl
    obtain⟨u4,y4,k4,_,t4⟩:=hf 4 _ rfl
    obtain⟨u5,y5,k5,_,t5⟩:=hf 5 _ rfl
    obtain⟨u6,y6,k6,_,t6⟩:=hf 6 _ rfl
    obtain⟨u7,y7,k7,_,t7⟩:=hf 7 _ rfl
    obtain⟨x0,e0,_,_⟩:=DataW.trod_int Tryz.underlying5 t0
    obtain⟨x1,e1,_,_⟩:=DataW.trod_int Tryz.underlying3 t1
    obtain⟨x2,e2,_,_⟩:=DataW.trod_int Tryz.underlying3 t2
    obtain⟨x3,e3,_,_⟩:=DataW.trod_int Tryz.underlying2 t3
    obtain⟨x4,e4,_,_⟩:=DataW.trod_int Tryz.underlying2 t4
    obtain⟨x5,e5,_,_⟩:=DataW.trod_int Tryz.underlying2 t5
    obtain⟨x6,e6,_,hs⟩:=DataW.trod_string Tryz.underlying9 t6
    obtain⟨x7,e7,_,_⟩:=DataW.trod_int Tryz.underlying22 t7
    simp only[List.cons.injEq,and_true] at e0 e1 e2 e3 e4 e5 e6 e7
    subst e0 e1 e2 e3 e4 e5 e6 e7
    refine⟨⟨x0,x1,x2,x3,x4,x5,x6,x7⟩,fun _=>⟨by unfold maxLen at hs;simp only;omega,fun j u hu=>?_⟩⟩
    match j,hu with
    | 0,hu=>cases hu;exact k0
    | 1,hu=>cases hu;exact k1
    | 2,hu=>cases hu;exact k2
    | 3,hu=>cases hu;exact k3
    | 4,hu=>cases hu;exact k4
    | 5,hu=>cases hu;exact k5
    | 6,hu=>cases hu;exact k6
    | 7,hu=>cases hu;exact k7
    | j+8,hu=>simp[cmdCells] at hu
   ·exact⟨wkD,fun h=>absurd h hi⟩
  obtain⟨C,hC⟩:=Classical.axiomOfChoice hC
  refine⟨(List.range len).map C,some a,cap,by simp,by simp;unfold maxLen at hcm;omega,fun c hc=>?_,?_⟩
  ·obtain⟨i,hi,rfl⟩:=List.mem_map.1 hc
   exact(hC i (List.mem_range.1 hi)).1
  ·rcases Nat.eq_zero_or_pos len with h0|h0
   ·left;subst h0;rfl
   ·right
    have hz:=(hC 0 h0).2 0 _ rfl
    have hb:=cell_lt hz
    obtain⟨b,off,fr⟩:=a
    have hfr:fr=none:=by
     cases fr with
     | none=>rfl
     | some q=>
      exfalso
      have hz0:W.cell? ⟨b,off,some q⟩=some (.int .u8 (C 0).kind):=by simpa[Addr.add] using hz
      unfold World.cell? at hz0
      split at hz0 <;> simp at hz0
    subst hfr
    refine⟨b,off,rfl,by simpa[Addr.add] using hb,fun i hi j u hu=>?_⟩
    have hi':i<len:=by simpa using hi
    have hget:((List.range len).map C).getD i wkD=C i:=by simp[List.getD_eq_getElem?_getD,hi']
    rw[hget] at hu
    have:=(hC i hi').2 j u hu
    rw[←this]
    have e:(⟨b,off+i*8+j,none⟩:Addr)=Addr.add ⟨b,off,none⟩ (i*8+j):=by
     unfold Addr.add
     split
     ·rename_i h
      have:off+i*8+j=off:=by omega
      rw[this]
     ·have:off+i*8+j=off+(i*8+j):=by omega
      rw[this]
    rw[e]
end Go.Proofs.YtjfelfjobeeenaaGreat
