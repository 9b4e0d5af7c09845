/- A law that leaves all old memory alone: its row's last step. Conditions: none. What came in, as it reads; and that it reads behind a call that leaves old memory as it did. Conditions: none. Calls and numbers that came in, as they read. Conditions: none. Calls of chapter 21, and short numbers, that came in, as they read. Conditions: none. -/
import Derived.Test.YtbcbhlfjgobejaaGreatRows
import Derived.WalkKit
import Derived.ProofKit
import Derived.OpenShut
import Derived.Test.YtbcbhlfjgobejaaGreatD28
import Derived.Deep.Slices
import Derived.Deep.Fields
import Derived.ChangeSame
import Derived.ReadAgain
import Derived.ChangeBears
import Derived.Lib.SmallJoins
import Derived.Test.YtbcbhlfjgobejaaGreatD39
set_option linter.unusedSimpArgs false
set_option linter.unusedVariables false
namespace Go.Sf
open Go.ChangeShapes Go.WideShapes Go.ChangeAt Go.RowKit
variable {P : Program} {H : Type} {enc : TypeId × Value → H}
theorem post_of_grown {f:Func} {s:ChangeSpec} {apart fresh handsOn again:Bool} {W W':World} {args:Array Value} {v:Value} {ds gs:List (DataW H)} {before pa pv:List MemPlace}
  (hW:DataW.Whole enc P f.params.toList s.vars apart W args.toList ds gs before)
  (hres:∀(b:Nat) (sp:Nat→Bool) (hd:Bool),DataW.TrodAll enc P W' b sp hd f.resultTypes.toList (v.resultList f.resultTypes.size) (s.fn H (ds++gs)).results [])
  (hargs:∀sp:Nat→Bool,(∀p∈before,sp p.block=true)→DataW.TrodAll enc P W' 0 sp true f.params.toList args.toList (s.fn H (ds++gs)).args pa)
  (hvars:∀sp:Nat→Bool,(∀p∈before,sp p.block=true)→DataW.TrodVars enc P W' sp s.vars (s.fn H (ds++gs)).vars pv)
  (hps:before=pa++pv) (hg:W.grownBy W' none)
  (hok:∀(j:Nat) (t:TypeId) (r:Value),f.resultTypes[j]? = some t→(v.resultList f.resultTypes.size)[j]? = some r→Value.okWide P W' .any 0 t r) :
  s.post enc P f apart fresh handsOn again W args v W':=by
 have hold:∀p∈before,(fun b=>decide (b<W.heap.size)) p.block=true:=fun p hp=>by simpa using hW.lt p hp
 have hlt:∀p∈before,p.block<W.heap.size:=fun p hp=>hW.lt p hp
 refine⟨ds,gs,before,[],pa,pv,hW,hres _ _ _,hargs _ hold,hvars _ hold,⟨hg.os,hg.output,fun i hi=>by rw[hg.block i hi (by simp)];exact(World.keptBut_refl W (fun p=>p∈before∧(p∈[]∨p∈pa∨p∈pv))).2.2 i hi⟩,fun _=>?_⟩
 obtain⟨_,_,_,_,_,hz,hn⟩:=hW
 refine⟨hok,_,_,([]++pa)++pv,⟨[]++pa,pv,trodAll_append (hargs _ (fun _ _=>rfl)) (hres _ _ _),hvars _ (fun _ _=>rfl),rfl,?_,?_⟩,?_⟩
 ·intro b off hp
  have hp':MemPlace.cell b off∈before:=by rw[hps];simpa using hp
  rw[World.frozen?_of_block (a:=⟨b,off,none⟩) (hg.block b (hlt _ hp') (by simp))]
  exact hz b off hp'
 ·intro ha
  have:=hn ha
  rw[hps] at this
  simpa using this
 ·intro p hp _
  rw[hps]
  simpa using hp
end Go.Sf
namespace Go.Proofs.YtbcbhlfjgobejaaGreat
open Go.ChangeShapes Go.WideShapes Go.ChangeAt Go.RowKit Go.Deep Go.Sf Go.Joins
section
variable {H : Type} {enc : TypeId × Value → H} {P : Program} {w : World} {base : Nat} {spare : Nat → Bool} {held : Bool}
theorem open_slice_fields {t e:TypeId} {fs:Array Field} {fuel:Nat} {cs:List Value} {x:DataW H × List MemPlace} (ht:P.underlying t=some (.slice e)) (he:P.underlying e=some (.struct fs))
  (hone:oneCellFields P fs=true) (hC:P.cellsOf e=fs.size) (h:DataW.trod enc P w base spare held fuel t cs=some x) :
  (cs = [.slice none 0 0]∧x=(.nil,[]))∨
  ∃(a:Addr) (len cap m:Nat) (D:Nat→DataW H) (Pl:Nat→List MemPlace),cs = [.slice (some a) len cap]∧base≤a.block∧len≤cap∧cap≤maxLen∧m=(if spare a.block then cap else len)∧
   x=(.slice ((List.range len).map D) ((List.range (m-len)).map fun j=>D (len+j)),MemPlace.row a (m*fs.size)++(List.range m).flatMap Pl)∧
   ∀i,i<m→∃(ys:List (DataW H × List MemPlace)) (n:Nat),D i = .agg (ys.map (·.1))∧Pl i=ys.flatMap (·.2)∧ys.length=fs.size∧
    ∀(j:Nat) (f:Field),fs[j]? = some f→∃(v:Value) (y:DataW H × List MemPlace),w.cell? (a.add (i*fs.size+j))=some v∧ys[j]? = some y∧DataW.trod enc P w base spare held n f.type [v]=some y:=by
 rcases open_slice ht h with h0|⟨a,len,cap,m,n,D,Pl,hcs,hb,hl,hm,hmm,hx,hi⟩
 ·exact .inl h0
 ·refine .inr ⟨a,len,cap,m,D,Pl,hcs,hb,hl,hm,hmm,by rw[hC] at hx;exact hx,fun i him=>?_⟩
  obtain⟨cs',hc,ht'⟩:=hi i him
  rw[hC] at hc
  obtain⟨ys,n',hn',hy,hlen,hyl,hf⟩:=DataW.trod_struct he ht'
  obtain⟨_,hcl,hat⟩:=World.cells?_some hc
  simp only[Prod.mk.injEq] at hy
  refine⟨ys,n',hy.1,hy.2,hyl,fun j f hj=>?_⟩
  obtain⟨ho,hk⟩:=hone_of hone j f hj
  have hjl:j<fs.size:=(Array.getElem?_eq_some_iff.1 hj).1
  have hcell:=hat j hjl
  have hv:cs'[j]? = some (cs'[j]'(by omega)):=List.getElem?_eq_getElem (by omega)
  have h1:=hf j f hj
  rw[ho,hk] at h1
  have hone':(cs'.drop j).take 1 = [cs'[j]'(by omega)]:=by
   rw[List.drop_eq_getElem_cons (by omega)]
   rfl
  rw[hone'] at h1
  have hys:ys[j]? = some (ys[j]'(by omega)):=List.getElem?_eq_getElem (by omega)
  refine⟨_,_,?_,hys,h1.trans hys⟩
  rw[←Go.Deep.add_add,hcell,hv]
end
section
variable {H : Type} {enc : TypeId × Value → H} {P : Program} {w w' : World} {base : Nat} {spare : Nat → Bool} {held : Bool}
theorem same_grown (hg:w.grownBy w' none) {p:MemPlace} (hp:p.block<w.heap.size):w.sameAt w' p:=by
 cases p with
 | cell b off=>exact World.cell?_of_block (a:=⟨b,off,none⟩) (hg.block b hp (by simp))
 | map b=>exact hg.block b hp (by simp)
theorem all_carry (hg:w.grownBy w' none):∀{ts:List TypeId} {vs:List Value} {ds:List (DataW H)} {ps:List MemPlace},DataW.TrodAll enc P w base spare held ts vs ds ps→(∀p∈ps,p.block<w.heap.size)→DataW.TrodAll enc P w' base spare held ts vs ds ps
 | [],[],[],_,h,_=>h
 | _ :: _,_ :: _,_ :: _,_,⟨p,q,⟨n,h1⟩,h2,e⟩,hs=>⟨p,q,⟨n,DataW.trod_carry n _ _ _ h1 (fun x hx=>same_grown hg (hs x (by rw[e];exact List.mem_append_left _ hx)))⟩,all_carry hg h2 (fun x hx=>hs x (by rw[e];exact List.mem_append_right _ hx)),e⟩
end
theorem kids:Kids Tryz.prog (·< Tryz.prog.types.size):=kids_rows (by kernel_rfl) (by kernel_rfl)
theorem full:∀t e,t<Tryz.prog.types.size→Tryz.prog.underlying t=some (.slice e)→0<Tryz.prog.cellsOf e:=slices_full_of Tryz.prog (by kernel_rfl)
set_option maxRecDepth 100000 in
theorem bytes_cell {H:Type} {enc:TypeId × Value→H} {W:World} {v:Value} {fuel:Nat} {x:DataW H × List MemPlace} (hf:DataW.trod enc Tryz.prog W 0 (fun _=>true) true fuel 32 [v]=some x) :
  ∃l q cap,v = .slice q l.length cap∧RawRow W v l∧BL l∧l.length≤9223372036854775807:=by
 rcases open_ints Tryz.underlying32 Tryz.underlying5 (by kernel_rfl) hf with ⟨hcs,_⟩|⟨a,len,cap,zs,hcs,_,hl,hm,hz,_,hcell,hwz⟩
 ·obtain rfl:v = .slice none 0 0:=by simpa using hcs
  exact⟨[],none,0,rfl,⟨none,0,rfl,Or.inl rfl⟩,fun b hb=>by simp at hb,by simp⟩
 ·obtain rfl:v = .slice (some a) len cap:=by simpa using hcs
  simp only[if_true] at hz
  unfold maxLen at hm
  have hlen:(zs.take len).length=len:=by rw[List.length_take];omega
  refine⟨zs.take len,some a,cap,by rw[hlen],⟨some a,cap,by rw[hlen],?_⟩,fun b hb=>?_,by rw[hlen];omega⟩
  ·rcases Nat.eq_zero_or_pos len with h0|h0
   ·left;subst h0;rfl
   ·refine Or.inr ⟨a,rfl,fun j u hu=>?_⟩
    have hj:j<len:=by
     have:=(List.getElem?_eq_some_iff.1 hu).1
     simp only[bytesV,List.length_map,hlen] at this
     exact this
    rw[hcell j (by omega),←hu]
    have hjz:j<zs.length:=by omega
    simp[bytesV,hj,List.getD,List.getElem?_take,List.getElem?_eq_getElem hjz]
  ·have:=hwz b (List.mem_of_mem_take hb)
   have h2:0≤b∧b≤255:=by simpa[Lit.wf,IntKind.min,IntKind.max,IntKind.signed,IntKind.bits] using this
   omega
theorem addr_none {W:World} {a:Addr} {u:Value} (h:W.cell? a=some u):∃b off,a=⟨b,off,none⟩:=by
 obtain⟨b,off,fr⟩:=a
 cases fr with
 | none=>exact⟨b,off,rfl⟩
 | some q=>
  exfalso
  unfold World.cell? at h
  split at h <;> simp at h
set_option maxRecDepth 100000 in
theorem ints_of {H:Type} {enc:TypeId × Value→H} {W:World} {base:Nat} {v:Value} {d:DataW H} {p:List MemPlace} (hval:Value.okWide Tryz.prog W .any base 44 v) (h:DataW.Trod enc Tryz.prog W 0 (fun _=>true) true 44 v d p) :
  ∃l,IntRow W v l:=by
 obtain⟨a1,len,cap,rfl⟩:=okWide_slice Tryz.underlying44 hval
 obtain⟨fuel,hf⟩:=h
 rcases open_ints Tryz.underlying44 Tryz.underlying3 (by kernel_rfl) hf with ⟨hcs,_⟩|⟨a,len',cap',zs,hcs,_,hl,hm,hz,_,hcell,hwz⟩
 ·simp[Value.cells] at hcs
  obtain⟨rfl,rfl,rfl⟩:=hcs
  exact⟨[],none,0,rfl,by simp,by simp,Or.inl rfl⟩
 ·simp[Value.cells] at hcs
  obtain⟨rfl,rfl,rfl⟩:=hcs
  simp only[if_true] at hz
  unfold maxLen at hm
  have hlen:(zs.take len).length=len:=by rw[List.length_take];omega
  refine⟨zs.take len,some a,cap,by rw[hlen],by rw[hlen];omega,fun b hb=>?_,?_⟩
  ·have:=hwz b (List.mem_of_mem_take hb)
   have h2 : -9223372036854775808≤b∧b≤9223372036854775807:=by simpa[Lit.wf,IntKind.min,IntKind.max,IntKind.signed,IntKind.bits] using this
   omega
  ·rcases Nat.eq_zero_or_pos len with h0|h0
   ·left;subst h0;rfl
   ·right
    have hjz:0<zs.length:=by omega
    have hc0:=hcell 0 (by omega)
    obtain⟨b,off,rfl⟩:=addr_none (W:=W) (a:=a) (u:=.int .i64 (zs.getD 0 0)) (by rw[←hc0];simp[Addr.add])
    refine⟨b,off,rfl,fun i hi=>?_⟩
    rw[hlen] at hi
    have:=hcell i (by omega)
    rw[addr_off] at this
    rw[this]
    have hjz:i<zs.length:=by omega
    simp[List.getD,List.getElem?_eq_getElem hjz]
set_option maxRecDepth 100000 in
theorem calls21_of {H:Type} {enc:TypeId × Value→H} {W:World} {base:Nat} {v:Value} {d:DataW H} {p:List MemPlace} (hval:Value.okWide Tryz.prog W .any base 81 v) (h:DataW.Trod enc Tryz.prog W 0 (fun _=>true) true 81 v d p) :
  ∃l,CallRow W v l:=by
 obtain⟨a1,len1,cap1,rfl⟩:=okWide_slice Tryz.underlying81 hval
 obtain⟨fuel,hf⟩:=h
 rcases open_slice_fields Tryz.underlying81 Tryz.underlying86 (by kernel_rfl) (by kernel_rfl) hf with ⟨h1,_⟩|⟨a,len,cap,m,D,Pl,h1,_,hlc,hcm,hm,_,hcell⟩
 ·simp[Value.cells] at h1
  obtain⟨rfl,rfl,rfl⟩:=h1
  exact⟨[],none,0,rfl,by simp,by simp,Or.inl rfl⟩
 ·simp[Value.cells] at h1
  obtain⟨rfl,rfl,rfl⟩:=h1
  have hm':m=cap1:=by simpa using hm
  have hC:∀i,∃c:CallM,i<len1→CallOk W c∧∀j u,(callCells c)[j]? = some u→W.cell? (a.add (i*5+j))=some u:=by
   intro i
   by_cases hi:i<len1
   ·obtain⟨ys,n,_,_,_,hf⟩:=hcell i (by omega)
    obtain⟨u0,y0,k0,_,t0⟩:=hf 0 _ rfl
    obtain⟨u1,y1,k1,_,t1⟩:=hf 1 _ rfl
    obtain⟨u2,y2,k2,_,t2⟩:=hf 2 _ rfl
    obtain⟨u3,y3,k3,_,t3⟩:=hf 3 _ rfl
    obtain⟨u4,y4,k4,_,t4⟩:=hf 4 _ rfl
    obtain⟨x0,e0,_,w0⟩:=DataW.trod_int Tryz.underlying5 t0
    obtain⟨l1,q1,c1,e1,r1,b1,n1⟩:=bytes_cell t1
    obtain⟨x2,e2,_,w2⟩:=DataW.trod_int Tryz.underlying5 t2
    obtain⟨x3,e3,_,w3⟩:=DataW.trod_int Tryz.underlying2 t3
    obtain⟨l4,q4,c4,e4,r4,b4,n4⟩:=bytes_cell t4
    simp only[List.cons.injEq,and_true] at e0 e2 e3
    subst e0 e1 e2 e3 e4
    have h0:0≤x0∧x0≤255:=by simpa[Lit.wf,IntKind.min,IntKind.max,IntKind.signed,IntKind.bits] using w0
    have h2:0≤x2∧x2≤255:=by simpa[Lit.wf,IntKind.min,IntKind.max,IntKind.signed,IntKind.bits] using w2
    have h3 : -9223372036854775808≤x3∧x3≤9223372036854775807:=by simpa[Lit.wf,IntKind.min,IntKind.max,IntKind.signed,IntKind.bits] using w3
    refine⟨⟨x0,l1,q1,c1,x2,x3,l4,q4,c4⟩,fun _=>⟨⟨r1,b1,r4,b4,h0,h2,h3,n1,n4⟩,fun j u hu=>?_⟩⟩
    match j,hu with
    | 0,hu=>cases hu;exact k0
    | 1,hu=>cases hu;exact k1
    | 2,hu=>cases hu;exact k2
    | 3,hu=>cases hu;exact k3
    | 4,hu=>cases hu;exact k4
    | j+5,hu=>simp[callCells] at hu
   ·exact⟨callD,fun h=>absurd h hi⟩
  obtain⟨C,hC⟩:=Classical.axiomOfChoice hC
  unfold maxLen at hcm
  refine⟨(List.range len1).map C,some a,cap1,by simp,by simp;omega,fun c hc=>?_,?_⟩
  ·obtain⟨i,hi,rfl⟩:=List.mem_map.1 hc
   exact(hC i (List.mem_range.1 hi)).1
  ·rcases Nat.eq_zero_or_pos len1 with h0|h0
   ·left;subst h0;rfl
   ·right
    have hz:=(hC 0 h0).2 0 _ rfl
    obtain⟨b,off,rfl⟩:=addr_none (W:=W) (a:=a) (u:=.int .u8 (C 0).kind) (by rw[←hz];simp[Addr.add])
    refine⟨b,off,rfl,fun i hi j u hu=>?_⟩
    have hi':i<len1:=by simpa using hi
    have hget:((List.range len1).map C).getD i callD=C i:=by simp[List.getD_eq_getElem?_getD,hi']
    rw[hget] at hu
    have:=(hC i hi').2 j u hu
    rw[addr_off,←Nat.add_assoc] at this
    exact this
end Go.Proofs.YtbcbhlfjgobejaaGreat
