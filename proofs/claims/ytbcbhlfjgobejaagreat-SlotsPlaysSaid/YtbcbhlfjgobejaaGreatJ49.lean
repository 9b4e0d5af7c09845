/- Calls and numbers that came in, as they read. Conditions: none, or as the theorems say. -/
import Derived.Test.YtbcbhlfjgobejaaGreatJ48
set_option linter.unusedSimpArgs false
set_option linter.unusedVariables false
namespace Go.Proofs.YtbcbhlfjgobejaaGreat
set_option maxHeartbeats 200000000
open Go.ChangeShapes Go.WideShapes Go.ChangeAt Go.RowKit Go.Deep Go.Sf Go.Joins
set_option maxRecDepth 100000 in
theorem zbj {H:Type} {enc:TypeId × Value→H} {W:World} {v:Value} {fuel:Nat} {x:DataW H × List MemPlace} (hf:DataW.trod enc Tryz.prog W 0 (fun _=>true) true fuel 32 [v]=some x) :
  ∃l q cap,v = .slice q l.length cap∧yi W v l∧BL l∧l.length≤9223372036854775807:=by
 rcases open_ints Tryz.underlying32 Tryz.underlying5 (by kernel_rfl) hf with ⟨hcs,_⟩|⟨a,len,cap,zs,hcs,_,hl,hm,hz,_,hcell,hwz⟩
 ·obtain rfl:v = .slice none 0 0:=by simpa using hcs
  exact⟨[],none,0,rfl,⟨none,0,rfl,Or.inl rfl⟩,fun b hb=>by simp at hb,by simp⟩
 ·obtain rfl:v = .slice (some a) len cap:=by simpa using hcs
  simp only[if_true] at hz;unfold maxLen at hm;have hlen:(zs.take len).length=len:=by rw[List.length_take];omega
  refine⟨zs.take len,some a,cap,by rw[hlen],⟨some a,cap,by rw[hlen],?_⟩,fun b hb=>?_,by rw[hlen];omega⟩
  ·rcases Nat.eq_zero_or_pos len with h0|h0
   ·left;subst h0;rfl
   ·refine Or.inr ⟨a,rfl,fun j u hu=>?_⟩
    have hj:j<len:=by
     have:=(List.getElem?_eq_some_iff.1 hu).1;simp only[zg,List.length_map,hlen] at this
     exact this
    rw[hcell j (by omega),←hu]
    have hjz:j<zs.length:=by omega
    simp[zg,hj,List.getD,List.getElem?_take,List.getElem?_eq_getElem hjz]
  ·have:=hwz b (List.mem_of_mem_take hb)
   have h2:0≤b∧b≤255:=by simpa[Lit.wf,IntKind.min,IntKind.max,IntKind.signed,IntKind.bits] using this
   omega
theorem zja {W:World} {a:Addr} {u:Value} (h:W.cell? a=some u):∃b off,a=⟨b,off,none⟩:=by
 obtain⟨b,off,fr⟩:=a
 cases fr with
 | none=>exact⟨b,off,rfl⟩
 | some q=>
  exfalso
  unfold World.cell? at h
  split at h <;> simp at h
set_option maxRecDepth 100000 in
theorem zlg {H:Type} {enc:TypeId × Value→H} {W:World} {base:Nat} {v:Value} {d:DataW H} {p:List MemPlace} (hval:Value.okWide Tryz.prog W .any base 43 v) (h:DataW.Trod enc Tryz.prog W 0 (fun _=>true) true 43 v d p) :
  ∃l,zd9 W v l:=by
 obtain⟨a1,len1,cap1,rfl⟩:=okWide_slice Tryz.underlying43 hval;obtain⟨fuel,hf⟩:=h
 rcases Qh Tryz.underlying43 Tryz.underlying49 (by kernel_rfl) (by kernel_rfl) hf with ⟨h1,_⟩|⟨a,len,cap,m,D,Pl,h1,_,hlc,hcm,hm,_,hcell⟩
 ·simp[Value.cells] at h1
  obtain⟨rfl,rfl,rfl⟩:=h1
  exact⟨[],none,0,rfl,by simp,by simp,Or.inl rfl⟩
 ·simp[Value.cells] at h1
  obtain⟨rfl,rfl,rfl⟩:=h1;have hm':m=cap1:=by simpa using hm
  have hC:∀i,∃c:qk,i<len1→jh W c∧∀j u,(yr c)[j]? = some u→W.cell? (a.add (i*5+j))=some u:=by
   intro i
   by_cases hi:i<len1
   ·obtain⟨ys,n,_,_,_,hf⟩:=hcell i (by omega)
    obtain⟨u0,y0,k0,_,t0⟩:=hf 0 _ rfl;obtain⟨u1,y1,k1,_,t1⟩:=hf 1 _ rfl;obtain⟨u2,y2,k2,_,t2⟩:=hf 2 _ rfl;obtain⟨u3,y3,k3,_,t3⟩:=hf 3 _ rfl;obtain⟨u4,y4,k4,_,t4⟩:=hf 4 _ rfl;obtain⟨x0,e0,_,w0⟩:=DataW.trod_int Tryz.underlying5 t0;obtain⟨l1,q1,c1,e1,r1,b1,n1⟩:=zbj t1;obtain⟨x2,e2,_,w2⟩:=DataW.trod_int Tryz.underlying5 t2;obtain⟨x3,e3,_,w3⟩:=DataW.trod_int Tryz.underlying2 t3;obtain⟨l4,q4,c4,e4,r4,b4,n4⟩:=zbj t4;simp only[List.cons.injEq,and_true] at e0 e2 e3;subst e0 e1 e2 e3 e4;have h0:0≤x0∧x0≤255:=by simpa[Lit.wf,IntKind.min,IntKind.max,IntKind.signed,IntKind.bits] using w0
    have h2:0≤x2∧x2≤255:=by simpa[Lit.wf,IntKind.min,IntKind.max,IntKind.signed,IntKind.bits] using w2
    have h3 : -9223372036854775808≤x3∧x3≤9223372036854775807:=by simpa[Lit.wf,IntKind.min,IntKind.max,IntKind.signed,IntKind.bits] using w3
    refine⟨⟨x0,l1,q1,c1,x2,x3,l4,q4,c4⟩,fun _=>⟨⟨r1,b1,r4,b4,h0,h2,h3,n1,n4⟩,fun j u hu=>?_⟩⟩
    match j,hu with
    | 0,hu=>cases hu;exact k0
    | 1,hu=>cases hu;exact k1
    | 2,hu=>cases hu;exact k2
    | 3,hu=>cases hu;exact k3
    | 4,hu=>cases hu;exact k4
    | j+5,hu=>simp[yr] at hu
   ·exact⟨zff,fun h=>absurd h hi⟩
  obtain⟨C,hC⟩:=Classical.axiomOfChoice hC;unfold maxLen at hcm;refine⟨(List.range len1).map C,some a,cap1,by simp,by simp;omega,fun c hc=>?_,?_⟩
  ·obtain⟨i,hi,rfl⟩:=List.mem_map.1 hc
   exact(hC i (List.mem_range.1 hi)).1
  ·rcases Nat.eq_zero_or_pos len1 with h0|h0
   ·left;subst h0;rfl
   ·right
    have hz:=(hC 0 h0).2 0 _ rfl;obtain⟨b,off,rfl⟩:=zja (W:=W) (a:=a) (u:=.int .u8 (C 0).kind) (by rw[←hz];simp[Addr.add])
    refine⟨b,off,rfl,fun i hi j u hu=>?_⟩
    have hi':i<len1:=by simpa using hi
    have hget:((List.range len1).map C).getD i zff=C i:=by simp[List.getD_eq_getElem?_getD,hi']
    rw[hget] at hu;have:=(hC i hi').2 j u hu;rw[ze8,←Nat.add_assoc] at this
    exact this
end Go.Proofs.YtbcbhlfjgobejaaGreat
