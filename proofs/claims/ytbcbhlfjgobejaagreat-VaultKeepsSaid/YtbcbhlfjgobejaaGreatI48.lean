/- A law that leaves all old memory alone: its row's last step. Conditions: none, or as the theorems say. -/
import Derived.Test.YtbcbhlfjgobejaaGreatRows
import Derived.WalkKit
import Derived.ProofKit
import Derived.OpenShut
import Derived.Test.YtbcbhlfjgobejaaGreatI27
import Derived.Deep.Slices
import Derived.Deep.Fields
import Derived.ChangeSame
import Derived.ReadAgain
import Derived.ChangeBears
import Derived.Lib.SmallJoins
import Derived.Test.YtbcbhlfjgobejaaGreatI46
import Derived.Test.YtbcbhlfjgobejaaGreatI45
set_option linter.unusedSimpArgs false
set_option linter.unusedVariables false
namespace Go.Sf
set_option maxHeartbeats 200000000
open Go.ChangeShapes Go.WideShapes Go.ChangeAt Go.RowKit
variable {P : Program} {H : Type} {enc : TypeId × Value → H}
theorem post_of_grown {f:Func} {s:ChangeSpec} {apart fresh handsOn again:Bool} {W W':World} {args:Array Value} {v:Value} {ds gs:List (DataW H)} {before pa pv:List MemPlace}
  (hW:DataW.Whole enc P f.params.toList s.vars apart W args.toList ds gs before)
  (hres:∀(b:Nat) (sp:Nat→Bool) (hd:Bool),DataW.TrodAll enc P W' b sp hd f.resultTypes.toList (v.resultList f.resultTypes.size) (s.fn H (ds++gs)).results [])
  (hargs:∀sp:Nat→Bool,(∀p∈before,sp p.block=true)→DataW.TrodAll enc P W' 0 sp true f.params.toList args.toList (s.fn H (ds++gs)).args pa)
  (hvars:∀sp:Nat→Bool,(∀p∈before,sp p.block=true)→DataW.TrodVars enc P W' sp s.vars (s.fn H (ds++gs)).vars pv)
  (hps:before=pa++pv) (hg:W.grownBy W' none)
  (hok:∀(j:Nat) (t:TypeId) (r:Value),f.resultTypes[j]? = some t→(v.resultList f.resultTypes.size)[j]? = some r→Value.okWide P W' .any 0 t r) :
  s.post enc P f apart fresh handsOn again W args v W':=by
 have hold:∀p∈before,(fun b=>decide (b<W.heap.size)) p.block=true:=fun p hp=>by simpa using hW.lt p hp
 have hlt:∀p∈before,p.block<W.heap.size:=fun p hp=>hW.lt p hp
 refine⟨ds,gs,before,[],pa,pv,hW,hres _ _ _,hargs _ hold,hvars _ hold,⟨hg.os,hg.output,fun i hi=>by rw[hg.block i hi (by simp)];exact(World.keptBut_refl W (fun p=>p∈before∧(p∈[]∨p∈pa∨p∈pv))).2.2 i hi⟩,fun _=>?_⟩
 obtain⟨_,_,_,_,_,hz,hn⟩:=hW;refine⟨hok,_,_,([]++pa)++pv,⟨[]++pa,pv,trodAll_append (hargs _ (fun _ _=>rfl)) (hres _ _ _),hvars _ (fun _ _=>rfl),rfl,?_,?_⟩,?_⟩
 ·intro b off hp
  have hp':MemPlace.cell b off∈before:=by rw[hps];simpa using hp
  rw[World.frozen?_of_block (a:=⟨b,off,none⟩) (hg.block b (hlt _ hp') (by simp))]
  exact hz b off hp'
 ·intro ha
  have:=hn ha;rw[hps] at this;simpa using this
 ·intro p hp _
  rw[hps];simpa using hp
end Go.Sf
namespace Go.Proofs.YtbcbhlfjgobejaaGreat
open Go.ChangeShapes Go.WideShapes Go.ChangeAt Go.RowKit Go.Deep Go.Sf Go.Joins
section
variable {H : Type} {enc : TypeId × Value → H} {P : Program} {w w' : World} {base : Nat} {spare : Nat → Bool} {held : Bool}
theorem zh9 (hg:w.grownBy w' none) {p:MemPlace} (hp:p.block<w.heap.size):w.sameAt w' p:=by
 cases p with
 | cell b off=>exact World.cell?_of_block (a:=⟨b,off,none⟩) (hg.block b hp (by simp))
 | map b=>exact hg.block b hp (by simp)
theorem zc1 (hg:w.grownBy w' none):∀{ts:List TypeId} {vs:List Value} {ds:List (DataW H)} {ps:List MemPlace},DataW.TrodAll enc P w base spare held ts vs ds ps→(∀p∈ps,p.block<w.heap.size)→DataW.TrodAll enc P w' base spare held ts vs ds ps
 | [],[],[],_,h,_=>h
 | _ :: _,_ :: _,_ :: _,_,⟨p,q,⟨n,h1⟩,h2,e⟩,hs=>⟨p,q,⟨n,DataW.trod_carry n _ _ _ h1 (fun x hx=>zh9 hg (hs x (by rw[e];exact List.mem_append_left _ hx)))⟩,zc1 hg h2 (fun x hx=>hs x (by rw[e];exact List.mem_append_right _ hx)),e⟩
end
theorem kids:Kids Tryz.prog (·< Tryz.prog.types.size):=kids_rows (by kernel_rfl) (by kernel_rfl)
theorem full:∀t e,t<Tryz.prog.types.size→Tryz.prog.underlying t=some (.slice e)→0<Tryz.prog.cellsOf e:=slices_full_of Tryz.prog (by kernel_rfl)
set_option maxRecDepth 100000 in
theorem zhj {H:Type} {enc:TypeId × Value→H} {W:World} {v:Value} {fuel:Nat} {x:DataW H × List MemPlace} (hf:DataW.trod enc Tryz.prog W 0 (fun _=>true) true fuel 32 [v]=some x) :
  ∃l q cap,v = .slice q l.length cap∧yc W v l∧BL l∧l.length≤9223372036854775807:=by
 rcases open_ints Tryz.underlying32 Tryz.underlying5 (by kernel_rfl) hf with ⟨hcs,_⟩|⟨a,len,cap,zs,hcs,_,hl,hm,hz,_,hcell,hwz⟩
 ·obtain rfl:v = .slice none 0 0:=by simpa using hcs
  exact⟨[],none,0,rfl,⟨none,0,rfl,Or.inl rfl⟩,fun b hb=>by simp at hb,by simp⟩
 ·obtain rfl:v = .slice (some a) len cap:=by simpa using hcs
  simp only[if_true] at hz;unfold maxLen at hm;have hlen:(zs.take len).length=len:=by rw[List.length_take];omega
  refine⟨zs.take len,some a,cap,by rw[hlen],⟨some a,cap,by rw[hlen],?_⟩,fun b hb=>?_,by rw[hlen];omega⟩
  ·rcases Nat.eq_zero_or_pos len with h0|h0
   ·left;subst h0;rfl
   ·refine Or.inr ⟨a,rfl,fun j u hu=>?_⟩
    have hj:j<len:=by
     have:=(List.getElem?_eq_some_iff.1 hu).1;simp only[zi,List.length_map,hlen] at this
     exact this
    rw[hcell j (by omega),←hu]
    have hjz:j<zs.length:=by omega
    simp[zi,hj,List.getD,List.getElem?_take,List.getElem?_eq_getElem hjz]
  ·have:=hwz b (List.mem_of_mem_take hb)
   have h2:0≤b∧b≤255:=by simpa[Lit.wf,IntKind.min,IntKind.max,IntKind.signed,IntKind.bits] using this
   omega
theorem zc0 {W:World} {a:Addr} {u:Value} (h:W.cell? a=some u):∃b off,a=⟨b,off,none⟩:=by
 obtain⟨b,off,fr⟩:=a
 cases fr with
 | none=>exact⟨b,off,rfl⟩
 | some q=>
  exfalso
  unfold World.cell? at h
  split at h <;> simp at h
set_option maxRecDepth 100000 in
theorem ints_of {H:Type} {enc:TypeId × Value→H} {W:World} {base:Nat} {v:Value} {d:DataW H} {p:List MemPlace} (hval:Value.okWide Tryz.prog W .any base 44 v) (h:DataW.Trod enc Tryz.prog W 0 (fun _=>true) true 44 v d p) :
  ∃l,zle W v l:=by
 obtain⟨a1,len,cap,rfl⟩:=okWide_slice Tryz.underlying44 hval;obtain⟨fuel,hf⟩:=h
 rcases open_ints Tryz.underlying44 Tryz.underlying3 (by kernel_rfl) hf with ⟨hcs,_⟩|⟨a,len',cap',zs,hcs,_,hl,hm,hz,_,hcell,hwz⟩
 ·simp[Value.cells] at hcs
  obtain⟨rfl,rfl,rfl⟩:=hcs
  exact⟨[],none,0,rfl,by simp,by simp,Or.inl rfl⟩
 ·simp[Value.cells] at hcs
  obtain⟨rfl,rfl,rfl⟩:=hcs;simp only[if_true] at hz;unfold maxLen at hm;have hlen:(zs.take len).length=len:=by rw[List.length_take];omega
  refine⟨zs.take len,some a,cap,by rw[hlen],by rw[hlen];omega,fun b hb=>?_,?_⟩
  ·have:=hwz b (List.mem_of_mem_take hb)
   have h2 : -9223372036854775808≤b∧b≤9223372036854775807:=by simpa[Lit.wf,IntKind.min,IntKind.max,IntKind.signed,IntKind.bits] using this
   omega
  ·rcases Nat.eq_zero_or_pos len with h0|h0
   ·left;subst h0;rfl
   ·right
    have hjz:0<zs.length:=by omega
    have hc0:=hcell 0 (by omega)
    obtain⟨b,off,rfl⟩:=zc0 (W:=W) (a:=a) (u:=.int .i64 (zs.getD 0 0)) (by rw[←hc0];simp[Addr.add])
    refine⟨b,off,rfl,fun i hi=>?_⟩
    rw[hlen] at hi;have:=hcell i (by omega)
    rw[ze7] at this;rw[this];have hjz:i<zs.length:=by omega
    simp[List.getD,List.getElem?_eq_getElem hjz]
set_option maxRecDepth 100000 in
theorem Vh {H:Type} {enc:TypeId × Value→H} {W:World} {v:Value} {fuel:Nat} {x:DataW H × List MemPlace} (hf:DataW.trod enc Tryz.prog W 0 (fun _=>true) true fuel 32 [v]=some x) :
  ∃l q cap,v = .slice q l.length cap∧ye (fun k=>k<W.heap.size) W v (zi l)∧BL l∧l.length≤9223372036854775807:=by
 rcases open_ints Tryz.underlying32 Tryz.underlying5 (by kernel_rfl) hf with ⟨hcs,_⟩|⟨a,len,cap,zs,hcs,_,hl,hm,hz,_,hcell,hwz⟩
 ·obtain rfl:v = .slice none 0 0:=by simpa using hcs
  exact⟨[],none,0,rfl,⟨none,0,rfl,by simp[zi],by decide,Or.inl rfl⟩,fun b hb=>by simp at hb,by simp⟩
 ·obtain rfl:v = .slice (some a) len cap:=by simpa using hcs
  simp only[if_true] at hz;unfold maxLen at hm;have hlen:(zs.take len).length=len:=by rw[List.length_take];omega
  refine⟨zs.take len,some a,cap,by rw[hlen],⟨some a,cap,by rw[zr,hlen],by rw[zr,hlen];omega,by omega,?_⟩,fun b hb=>?_,by rw[hlen];omega⟩
  ·rcases Nat.eq_zero_or_pos len with h0|h0
   ·left;subst h0;rfl
   ·have hce:∀j u,(zi (zs.take len))[j]? = some u→W.cell? (a.add j)=some u:=fun j u hu=>by
     have hj:j<len:=by
      have:=(List.getElem?_eq_some_iff.1 hu).1;simp only[zi,List.length_map,hlen] at this
      exact this
     rw[hcell j (by omega),←hu]
     have hjz:j<zs.length:=by omega
     simp[zi,hj,List.getD,List.getElem?_eq_getElem hjz]
    refine Or.inr ⟨a,rfl,?_,hce⟩;have hz0:0<zs.length:=by omega
    have h5:=hce 0 (.int .u8 zs[0]) (by simp[zi,h0])
    have h6:=xg h5
    rwa [show(a.add 0).block=a.block by unfold Addr.add;split <;> rfl] at h6
  ·have:=hwz b (List.mem_of_mem_take hb)
   have h2:0≤b∧b≤255:=by simpa[Lit.wf,IntKind.min,IntKind.max,IntKind.signed,IntKind.bits] using this
   omega
theorem zjq:Tryz.prog.cellsOf 114=8:=by kernel_rfl
theorem cellsSh:Tryz.prog.cellsOf 97=4:=by kernel_rfl
theorem cellsU8:Tryz.prog.cellsOf 5=1:=by kernel_rfl
theorem za6:Tryz.prog.cellsOf 32=1:=by kernel_rfl
theorem zfa:Tryz.prog.cellsOf 2=1:=by kernel_rfl
theorem zlo:Tryz.prog.cellsOf 3=1:=by kernel_rfl
theorem eight {α:Type} {l:List α} (h:l.length=8):∃a b c d e f g i,l = [a,b,c,d,e,f,g,i]:=by
 match l,h with
 | [a,b,c,d,e,f,g,i],_=>exact⟨a,b,c,d,e,f,g,i,rfl⟩
theorem Zy {α:Type} {l:List α} {n i:Nat} (h:l.length=n) (hi:i<n):∃y,l[i]? = some y:=⟨_,List.getElem?_eq_getElem (by omega)⟩
set_option maxRecDepth 100000 in
theorem zhl {H:Type} {enc:TypeId × Value→H} {W:World} {base:Nat} {v:Value} {d:DataW H} {p:List MemPlace} (hval:Value.okWide Tryz.prog W .any base 111 v) (h:DataW.Trod enc Tryz.prog W 0 (fun _=>true) true 111 v d p) :
  ∃l,zd4 W v l:=by
 obtain⟨a1,len1,cap1,rfl⟩:=okWide_slice Tryz.underlying111 hval;obtain⟨fuel,hf⟩:=h
 rcases open_slice Tryz.underlying111 hf with ⟨h1,_⟩|⟨a,len,cap,m,n,D,Pl,h1,_,hlc,hcm,hm,_,hcell⟩
 ·simp[Value.cells] at h1
  obtain⟨rfl,rfl,rfl⟩:=h1
  exact⟨[],none,0,rfl,by simp,by simp,Or.inl rfl⟩
 ·simp[Value.cells] at h1
  obtain⟨rfl,rfl,rfl⟩:=h1;have hm':m=cap1:=by simpa using hm
  rw[zjq] at hcell;have hC:∀i,∃c:Vd,i<len1→ziz W c∧∀j u,(Vi c)[j]? = some u→W.cell? (a.add (i*8+j))=some u:=by
   intro i
   by_cases hi:i<len1
   ·obtain⟨cs,hc,ht⟩:=hcell i (by omega)
    obtain⟨_,hcl,hat⟩:=World.cells?_some hc;obtain⟨ys,n',_,hy,hlen,hyl,hff⟩:=DataW.trod_struct Tryz.underlying114 ht;obtain⟨u0,u1,u2,u3,u4,u5,u6,u7,rfl⟩:=eight hcl;obtain⟨y0,e0⟩:=Zy (i:=0) hyl (by decide)
    obtain⟨y1,e1⟩:=Zy (i:=1) hyl (by decide)
    obtain⟨y2,e2⟩:=Zy (i:=2) hyl (by decide)
    obtain⟨y3,e3⟩:=Zy (i:=3) hyl (by decide)
    obtain⟨y4,e4⟩:=Zy (i:=4) hyl (by decide)
    have t0:DataW.trod enc Tryz.prog W 0 (fun _=>true) true n' 5 [u0]=some y0:=by
     have h2:DataW.trod enc Tryz.prog W 0 (fun _=>true) true n' 5 (List.take (Tryz.prog.cellsOf 5) (List.drop 0 [u0,u1,u2,u3,u4,u5,u6,u7]))=some y0:=(hff 0 _ rfl).trans e0
     rw[cellsU8] at h2
     exact h2
    have t1:DataW.trod enc Tryz.prog W 0 (fun _=>true) true n' 97 [u1,u2,u3,u4]=some y1:=by
     have h2:DataW.trod enc Tryz.prog W 0 (fun _=>true) true n' 97 (List.take (Tryz.prog.cellsOf 97) (List.drop 1 [u0,u1,u2,u3,u4,u5,u6,u7]))=some y1:=(hff 1 _ rfl).trans e1
     rw[cellsSh] at h2
     exact h2
    have t2:DataW.trod enc Tryz.prog W 0 (fun _=>true) true n' 32 [u5]=some y2:=by
     have h2:DataW.trod enc Tryz.prog W 0 (fun _=>true) true n' 32 (List.take (Tryz.prog.cellsOf 32) (List.drop 5 [u0,u1,u2,u3,u4,u5,u6,u7]))=some y2:=(hff 2 _ rfl).trans e2
     rw[za6] at h2
     exact h2
    have t3:DataW.trod enc Tryz.prog W 0 (fun _=>true) true n' 2 [u6]=some y3:=by
     have h2:DataW.trod enc Tryz.prog W 0 (fun _=>true) true n' 2 (List.take (Tryz.prog.cellsOf 2) (List.drop 6 [u0,u1,u2,u3,u4,u5,u6,u7]))=some y3:=(hff 3 _ rfl).trans e3
     rw[zfa] at h2
     exact h2
    have t4:DataW.trod enc Tryz.prog W 0 (fun _=>true) true n' 32 [u7]=some y4:=by
     have h2:DataW.trod enc Tryz.prog W 0 (fun _=>true) true n' 32 (List.take (Tryz.prog.cellsOf 32) (List.drop 7 [u0,u1,u2,u3,u4,u5,u6,u7]))=some y4:=(hff 4 _ rfl).trans e4
     rw[za6] at h2
     exact h2
    obtain⟨zs,n2,_,hz,hlen2,hzl,hgg⟩:=DataW.trod_struct Tryz.underlying97 t1;obtain⟨z0,d0⟩:=Zy (i:=0) hzl (by decide)
    obtain⟨z1,d1⟩:=Zy (i:=1) hzl (by decide)
    obtain⟨z2,d2⟩:=Zy (i:=2) hzl (by decide)
    obtain⟨z3,d3⟩:=Zy (i:=3) hzl (by decide)
    have s0:DataW.trod enc Tryz.prog W 0 (fun _=>true) true n2 32 [u1]=some z0:=by
     have h2:DataW.trod enc Tryz.prog W 0 (fun _=>true) true n2 32 (List.take (Tryz.prog.cellsOf 32) (List.drop 0 [u1,u2,u3,u4]))=some z0:=(hgg 0 _ rfl).trans d0
     rw[za6] at h2
     exact h2
    have s1:DataW.trod enc Tryz.prog W 0 (fun _=>true) true n2 2 [u2]=some z1:=by
     have h2:DataW.trod enc Tryz.prog W 0 (fun _=>true) true n2 2 (List.take (Tryz.prog.cellsOf 2) (List.drop 1 [u1,u2,u3,u4]))=some z1:=(hgg 1 _ rfl).trans d1
     rw[zfa] at h2
     exact h2
    have s2:DataW.trod enc Tryz.prog W 0 (fun _=>true) true n2 3 [u3]=some z2:=by
     have h2:DataW.trod enc Tryz.prog W 0 (fun _=>true) true n2 3 (List.take (Tryz.prog.cellsOf 3) (List.drop 2 [u1,u2,u3,u4]))=some z2:=(hgg 2 _ rfl).trans d2
     rw[zlo] at h2
     exact h2
    have s3:DataW.trod enc Tryz.prog W 0 (fun _=>true) true n2 32 [u4]=some z3:=by
     have h2:DataW.trod enc Tryz.prog W 0 (fun _=>true) true n2 32 (List.take (Tryz.prog.cellsOf 32) (List.drop 3 [u1,u2,u3,u4]))=some z3:=(hgg 3 _ rfl).trans d3
     rw[za6] at h2
     exact h2
    obtain⟨x0,q0,_,w0⟩:=DataW.trod_int Tryz.underlying5 t0;obtain⟨lk,pk,ck,rfl,rk,bk,nk⟩:=Vh s0;obtain⟨xv,q1,_,wv⟩:=DataW.trod_int Tryz.underlying2 s1;obtain⟨xn,q2,_,wn⟩:=DataW.trod_int Tryz.underlying3 s2;obtain⟨lr,pr,cr,rfl,rr,br,nr⟩:=Vh s3;obtain⟨lb,pb,cb,rfl,rb,bb,nb⟩:=Vh t2;obtain⟨x3,q3,_,w3⟩:=DataW.trod_int Tryz.underlying2 t3;obtain⟨l4,p4,c4,rfl,r4,b4,n4⟩:=zhj t4;simp only[List.cons.injEq,and_true] at q0 q1 q2 q3;subst q0 q1 q2 q3;have h0:0≤x0∧x0≤255:=by simpa[Lit.wf,IntKind.min,IntKind.max,IntKind.signed,IntKind.bits] using w0
    have hv : -9223372036854775808≤xv∧xv≤9223372036854775807:=by simpa[Lit.wf,IntKind.min,IntKind.max,IntKind.signed,IntKind.bits] using wv
    have h3 : -9223372036854775808≤x3∧x3≤9223372036854775807:=by simpa[Lit.wf,IntKind.min,IntKind.max,IntKind.signed,IntKind.bits] using w3
    refine⟨⟨x0,⟨⟨lk,xv,xn,lr⟩,pk,ck,pr,cr⟩,lb.length,pb,cb,x3,l4,p4,c4⟩,fun _=>⟨⟨⟨rk,rr,⟨bk,br⟩,hv,nk,nr⟩,r4,b4,h0,h3,nb,n4⟩,fun j u hu=>?_⟩⟩
    have hj:j<8:=(List.getElem?_eq_some_iff.1 hu).1;have h9:=hat j hj;rw[Go.Deep.add_add] at h9;rw[h9]
    exact hu
   ·exact⟨zbi,fun h=>absurd h hi⟩
  obtain⟨C,hC⟩:=Classical.axiomOfChoice hC;unfold maxLen at hcm;refine⟨(List.range len1).map C,some a,cap1,by simp,by simp;omega,fun c hc=>?_,?_⟩
  ·obtain⟨i,hi,rfl⟩:=List.mem_map.1 hc
   exact(hC i (List.mem_range.1 hi)).1
  ·rcases Nat.eq_zero_or_pos len1 with h0|h0
   ·left;subst h0;rfl
   ·right
    have hz:=(hC 0 h0).2 0 _ rfl;obtain⟨b,off,rfl⟩:=zc0 (W:=W) (a:=a) (u:=.int .u8 (C 0).kind) (by rw[←hz];simp[Addr.add])
    refine⟨b,off,rfl,fun i hi j u hu=>?_⟩
    have hi':i<len1:=by simpa using hi
    have hget:((List.range len1).map C).getD i zbi=C i:=by simp[List.getD_eq_getElem?_getD,hi']
    rw[hget] at hu;have:=(hC i hi').2 j u hu;rw[ze7,←Nat.add_assoc] at this
    exact this
end Go.Proofs.YtbcbhlfjgobejaaGreat
