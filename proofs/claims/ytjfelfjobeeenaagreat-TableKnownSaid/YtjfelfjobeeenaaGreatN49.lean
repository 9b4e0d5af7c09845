/- TableBytes, plain: what the parser gives is fit for Bytes, and no longer than what was read. Conditions: none, or as the theorems say. -/
import Derived.Test.YtjfelfjobeeenaaGreatN48
import Derived.Test.YtjfelfjobeeenaaGreatN32
namespace Go.Proofs.YtjfelfjobeeenaaGreat
set_option maxHeartbeats 200000000
set_option linter.unusedVariables false
set_option linter.unusedSimpArgs false
open Go.RowKit Go.Sf Go.Shelf
def zgd {α:Type} (Q:α→Prop) (sz:α→Nat) (f:α→List Int→Option (α × List Int)):Prop:=
 ∀a l a' l',BL l→Q a→f a l=some (a',l')→BL l'∧Q a'∧sz a'+l'.length≤sz a+l.length
theorem zgd.rep {α:Type} {Q:α→Prop} {sz:α→Nat} {f:α→List Int→Option (α × List Int)} (h:zgd Q sz f):∀k,zgd Q sz (Go.Proofs.YtjfelfjobeeenaaGreat.rep f k)
 | 0,a,l,a',l',hl,hq,e=>by
  simp only[Go.Proofs.YtjfelfjobeeenaaGreat.rep] at e
  cases e
  exact⟨hl,hq,Nat.le_refl _⟩
 | k+1,a,l,a',l',hl,hq,e=>by
  simp only[Go.Proofs.YtjfelfjobeeenaaGreat.rep] at e
  cases e1:f a l with
  | none=>rw[e1] at e;cases e
  | some p=>
   obtain⟨b,m⟩:=p;rw[e1,Option.bind_some] at e;obtain⟨h1,h2,h3⟩:=h a l b m hl hq e1;obtain⟨h4,h5,h6⟩:=zgd.rep h k b m a' l' h1 h2 e
   exact⟨h4,h5,by omega⟩
theorem Yn {n x:Nat} {l t:List Int} (h:rd n l=some (x,t)):t.length+n=l.length:=by
 unfold rd at h
 split at h
 ·cases h;rw[List.length_drop];omega
 ·cases h
theorem zhi {l t:List Int} {b:Bool} (hl:BL l) (h:Ue l=some (b,t)):BL t∧t.length+1=l.length:=by
 unfold Ue at h
 cases e:rd 1 l with
 | none=>rw[e] at h;cases h
 | some p=>
  rw[e,Option.bind_some] at h
  split at h
  ·cases h;exact⟨(xz hl e).2.2,Yn e⟩
  ·cases h
theorem zep {l t:List Int} {i:ID} (hl:BL l) (h:Ql l=some (i,t)):BL t∧i.key.size≤255∧t.length+i.key.size+9=l.length:=by
 unfold Ql at h
 cases e:rdT l with
 | none=>rw[e] at h;cases h
 | some p=>
  rw[e,Option.bind_some] at h;obtain⟨h1,h2,h3⟩:=zbj hl e
  cases e2:rd 8 p.2 with
  | none=>rw[e2] at h;cases h
  | some q=>
   rw[e2,Option.bind_some] at h
   cases h
   have h4:=Yn e2;have h5:=congrArg List.length h1;simp only[List.length_append,yn,zy] at h5
   exact⟨(xz h3 e2).2.2,by simp only;omega,by simp only;omega⟩
def szC (m:List (Int × yz)):Nat:=21*m.length
def szV (m:List (ByteArray × Val)):Nat:=(m.map fun p=>p.1.size+10).sum
def szP (m:List (ID × xd)):Nat:=(m.map fun p=>p.1.key.size+19).sum
def szH (m:List (ID × ye)):Nat:=(m.map fun p=>p.1.key.size+11+2*p.2.mem.length).sum
theorem zdx {K V:Type} [DecidableEq K] (g:K × V→Nat) (k:K) (v:V) (c:Nat) (hc:g (k,v)≤c) (hv:∀u,g (k,v)≤g (k,u)):∀m:List (K × V),((ym m k v).map g).sum≤(m.map g).sum+c
 | []=>by simp[ym];exact hc
 | p :: r=>by
  rw[ym]
  by_cases e:p.1=k
  ·rw[if_pos e]
   have:=hv p.2;rw[←e] at this;simp only[List.map_cons,List.sum_cons];rw[←e];have h2:g p=g (p.1,p.2):=rfl;omega
  ·rw[if_neg e]
   have:=zdx g k v c hc hv r;simp only[List.map_cons,List.sum_cons];omega
def QC (m:List (Int × yz)):Prop:=(m.map (·.1)).Nodup∧∀p∈m,0≤p.1∧p.1≤65535
theorem zq5:zgd QC szC zap:=by
 intro a l a' l' hl hq e;unfold zap at e
 cases e1:rd 2 l with
 | none=>rw[e1] at e;cases e
 | some p1=>
  rw[e1,Option.bind_some] at e;have b1:=xz hl e1
  cases e2:rd 8 p1.2 with
  | none=>rw[e2] at e;cases e
  | some p2=>
   rw[e2,Option.bind_some] at e;have b2:=xz b1.2.2 e2
   cases e3:rd 8 p2.2 with
   | none=>rw[e3] at e;cases e
   | some p3=>
    rw[e3,Option.bind_some] at e;have b3:=xz b2.2.2 e3
    cases e4:Ue p3.2 with
    | none=>rw[e4] at e;cases e
    | some p4=>
     rw[e4,Option.bind_some] at e;have b4:=zhi b3.2.2 e4
     cases e5:rd 2 p4.2 with
     | none=>rw[e5] at e;cases e
     | some p5=>
      rw[e5,Option.bind_some] at e;have b5:=xz b4.1 e5
      cases e
      have l1:=Yn e1;have l2:=Yn e2;have l3:=Yn e3;have l5:=Yn e5;have hm:=zg9 a (p1.1:Int) (⟨s64 p2.1,s64 p3.1,p4.1,p5.1⟩:yz);refine⟨b5.2.2,⟨jd hq.1 _ _,fun p hp=>?_⟩,?_⟩
      ·rcases zb1 hp with hp|rfl
       ·exact hq.2 p hp
       ·have:=b1.2.1;exact⟨by simp only;omega,by simp only;omega⟩
      ·unfold szC;omega
def QV (m:List (ByteArray × Val)):Prop:=(m.map (·.1)).Nodup∧∀p∈m,p.1.size≤255
theorem ztj (x:Int):zgd QV szV (zds x):=by
 intro a l a' l' hl hq e;unfold zds at e
 cases e1:Ql l with
 | none=>rw[e1] at e;cases e
 | some p1=>
  rw[e1,Option.bind_some] at e;have b1:=zep hl e1
  split at e
  case isFalse=>cases e
  cases e2:Ue p1.2 with
  | none=>rw[e2] at e;cases e
  | some p2=>
   rw[e2,Option.bind_some] at e;have b2:=zhi b1.1 e2
   cases e
   refine⟨b2.1,⟨jd hq.1 _ _,fun p hp=>?_⟩,?_⟩
   ·rcases zb1 hp with hp|rfl
    ·exact hq.2 p hp
    ·exact b1.2.1
   ·have hs:=zdx (fun p:ByteArray × Val=>p.1.size+10) p1.1.key ⟨p1.1.zvz,p2.1⟩ (p1.1.key.size+10) (Nat.le_refl _) (fun _=>Nat.le_refl _) a
    have l1:=b1.2.2;have l2:=b2.2;unfold szV;omega
def QP (m:List (ID × xd)):Prop:=(m.map (·.1)).Nodup
theorem zq6 (x:Int):zgd QP szP (zaq x):=by
 intro a l a' l' hl hq e;unfold zaq at e
 cases e1:Ql l with
 | none=>rw[e1] at e;cases e
 | some p1=>
  rw[e1,Option.bind_some] at e;have b1:=zep hl e1
  split at e
  case isFalse=>cases e
  cases e2:rd 2 p1.2 with
  | none=>rw[e2] at e;cases e
  | some p2=>
   rw[e2,Option.bind_some] at e;have b2:=xz b1.1 e2
   cases e3:rd 8 p2.2 with
   | none=>rw[e3] at e;cases e
   | some p3=>
    rw[e3,Option.bind_some] at e;have b3:=xz b2.2.2 e3
    cases e
    refine⟨b3.2.2,jd hq _ _,?_⟩;have hs:=zdx (fun p:ID × xd=>p.1.key.size+19) p1.1 ⟨(p2.1:Int),s64 p3.1⟩ (p1.1.key.size+19) (Nat.le_refl _) (fun _=>Nat.le_refl _) a
    have l1:=b1.2.2;have l2:=Yn e2;have l3:=Yn e3;unfold szP;omega
def QH (m:List (ID × ye)):Prop:=(m.map (·.1)).Nodup∧∀p∈m,∀x∈p.2.mem,0≤x∧x≤65535
theorem zny (i:ID) (f:List Int→List Int) (c:Nat) (hf:∀l,(f l).length≤l.length+c):∀m:List (ID × ye),(m.map (·.1)).Nodup→szH (ql m i f)≤szH m+2*c
 | [],_=>by simp[ql,szH]
 | p :: r,hn=>by
  simp only[List.map_cons,List.nodup_cons] at hn;unfold szH ql;simp only[List.map_cons,List.sum_cons]
  by_cases e:p.1=i
  ·rw[if_pos e]
   have h1:(r.map fun p=>if p.1=i then (p.1,⟨p.2.blk,f p.2.mem⟩) else p)=r:=by
    conv=>rhs;rw[←List.map_id r]
    apply List.map_congr_left
    intro q hq;rw[if_neg (fun e2=>hn.1 (List.mem_map.2 ⟨q,hq,e2.trans e.symm⟩))]
    rfl
   rw[h1];have h2:=hf p.2.mem;simp only;omega
  ·rw[if_neg e]
   have:=zny i f c hf r hn.2;unfold szH ql at this;omega
theorem zvc (l:List Int) (x:Int):(um l x).length≤l.length+1:=by unfold um;split <;> simp
theorem zti (n:Int) (i:ID):zgd QH szH (zfk n i):=by
 intro a l a' l' hl hq e;unfold zfk at e
 cases e1:rd 2 l with
 | none=>rw[e1] at e;cases e
 | some p1=>
  rw[e1,Option.bind_some] at e;have b1:=xz hl e1
  split at e
  case isFalse=>cases e
  cases e
  refine⟨b1.2.2,⟨by rw[zet];exact hq.1,fun p hp x hx=>?_⟩,?_⟩
  ·obtain⟨q,hq2,rfl⟩:=List.mem_map.1 hp
   have h0:=b1.2.1
   by_cases e2:q.1=i
   ·simp only[e2,if_true] at hx
    rcases(zmo _ _ _).1 hx with hx|rfl
    ·exact hq.2 q hq2 x hx
    ·exact⟨by omega,by omega⟩
   ·simp only[e2,if_false] at hx
    exact hq.2 q hq2 x hx
  ·have hs:=zny i (fun l=>um l (p1.1:Int)) 1 (fun l=>zvc l _) a hq.1
   have l1:=Yn e1;omega
theorem zhj (n:Int) (i:ID):∀(k:Nat) (m:List (ID × ye)) (l:List Int),Zs n i k m l=rep (zfk n i) k m l
 | 0,m,l=>rfl
 | k+1,m,l=>by
  rw[Zs,rep]
  congr 1
  funext p
  exact zhj n i k p.1 p.2
theorem zlx (n:Int):zgd QH szH (zaz n):=by
 intro a l a' l' hl hq e;unfold zaz at e
 cases e1:Ql l with
 | none=>rw[e1] at e;cases e
 | some p1=>
  rw[e1,Option.bind_some] at e;have b1:=zep hl e1
  cases e2:rd 2 p1.2 with
  | none=>rw[e2] at e;cases e
  | some p2=>
   rw[e2,Option.bind_some,zhj] at e;have b2:=xz b1.1 e2;have hs:=zdx (fun p:ID × ye=>p.1.key.size+11+2*p.2.mem.length) p1.1 ⟨0,[]⟩ (p1.1.key.size+11) (by simp) (fun u=>by simp) a
   have h1:=(zti n p1.1).rep p2.1 (ym a p1.1 ⟨0,[]⟩) p2.2 a' l' b2.2.2 ⟨jd hq.1 _ _,fun p hp x hx=>by
    rcases zb1 hp with hp|rfl
    ·exact hq.2 p hp x hx
    ·cases hx⟩ e
   have l1:=b1.2.2;have l2:=Yn e2;refine⟨h1.1,h1.2.1,?_⟩;have h3:=h1.2.2;unfold szH at h3 ⊢;omega
theorem zn2 {x:Int} (h0 : -9223372036854775808≤x) (h1:x≤9223372036854775807):(Lit.int .i64 x).wf=true:=by
 simp[Lit.wf,IntKind.min,IntKind.max,IntKind.bits,IntKind.signed];omega
theorem Uj {α:Type} (f:α→List Int) (g:α→Nat) (l:List α) (h:∀a,(f a).length=g a):(l.flatMap f).length=(l.map g).sum:=by
 rw[List.length_flatMap]
 congr 1
 exact List.map_congr_left fun a _=>h a
theorem zcb {α:Type} (c:Nat):∀l:List α,(l.map fun _=>c).sum=c*l.length
 | []=>by simp
 | a :: r=>by rw[List.map_cons,List.sum_cons,zcb c r,List.length_cons,Nat.mul_succ];omega
theorem zg4 {α:Type} (g:α→Nat) (hg:∀a,1≤g a):∀l:List α,l.length≤(l.map g).sum
 | []=>by simp
 | a :: r=>by have:=hg a;have:=zg4 g hg r;simp only[List.map_cons,List.sum_cons,List.length_cons];omega
theorem le_sz {α:Type} (g:α→Nat):∀(l:List α) (a:α),a∈l→g a≤(l.map g).sum
 | [],a,h=>by cases h
 | b :: r,a,h=>by
  simp only[List.map_cons,List.sum_cons]
  rcases List.mem_cons.1 h with rfl|h
  ·omega
  ·have:=le_sz g r a h;omega
theorem zjg (m:List (Int × yz)):(Qd m).length=4+szC m:=by
 unfold Qd szC;rw[List.length_append,Vz,Uj (zco m) (fun _=>21) _ (fun a=>zqx _),zcb,(zai m).length_eq,List.length_map]
theorem zjj (m:List (ByteArray × Val)):(Xv m).length=4+szV m:=by
 have hr:Xv m=e4 m.length++((Zx m).map mkB).flatMap (fun s=>zew (s,zfv m s)):=by
  unfold Xv;rw[List.flatMap_map]
  rfl
 rw[hr,List.length_append,Vz,Uj (fun s=>zew (s,zfv m s)) (fun s=>s.size+10) _ (fun a=>zn1 _),((zaa m).map _).sum_nat,List.map_map]
 rfl
theorem zji {m:List (ID × xd)} (h:(m.map (·.1)).Nodup):(Vw m).length=4+szP m:=by
 unfold Vw;rw[List.length_append,Vz,Uj (zbg m) (fun i=>i.key.size+19) _ (fun a=>zja _),((qw h).map _).sum_nat,List.map_map]
 rfl
theorem zb7 {m:List (ID × ye)} (h:(m.map (·.1)).Nodup):(jf m).length=4+szH m:=by
 unfold jf szH;rw[List.length_append,Vz,Uj (zah m) (fun i=>i.key.size+11+2*(zbd m i).length) _ (fun a=>zno _),((qw h).map _).sum_nat,List.map_map]
 congr 2
 refine List.map_congr_left fun p hp=>?_
 have e:=vo h hp;simp only[Function.comp];rw[show zbd m p.1=p.2.mem from by unfold zbd;rw[e];rfl]
theorem zdr {o:Int}:∀(k i:Nat) (L l:List Int) (L' t:List Int),BL l→Vn o k i L l=some (L',t)→L'.length=L.length∧t.length+8*k=l.length∧BL t
 | 0,i,L,l,L',t,hl,h=>by
  rw[Vn] at h
  cases h
  exact⟨rfl,by omega,hl⟩
 | k+1,i,L,l,L',t,hl,h=>by
  rw[Vn] at h
  cases e:rd 8 l with
  | none=>rw[e] at h;cases h
  | some p=>
   rw[e,Option.bind_some] at h
   split at h
   case isFalse=>cases h
   have h1:=zdr k (i+1) _ _ _ _ (xz hl e).2.2 h;have h2:=Yn e;rw[List.length_set] at h1
   exact⟨h1.1,by omega,h1.2.2⟩
theorem zgd.count {α:Type} {Q:α→Prop} {sz:α→Nat} {f:α→List Int→Option (α × List Int)} (h:zgd Q sz f) {a a':α} {l l':List Int} {c:Nat × List Int} (hl:BL l) (hq:Q a) (e1:rd 4 l=some c) (e:Go.Proofs.YtjfelfjobeeenaaGreat.rep f c.1 a c.2=some (a',l')):BL l'∧Q a'∧sz a'+l'.length+4≤sz a+l.length:=by
 have h1:=h.rep c.1 a c.2 a' l' (xz hl e1).2.2 hq e;have h2:=Yn e1
 exact⟨h1.1,h1.2.1,by omega⟩
theorem zp4 {L:Tab} {l:List Int} (hc:QC L.calls) (hv:QV L.values) (hp:QP L.pending) (hh:QH L.holds) (hr:QH L.zv2) (hn:L.zv0.length≤255) (hs:20+8*L.zv0.length+(4+szC L.calls)+(4+szV L.values)+(4+szP L.pending)+(4+szH L.holds)+(4+szH L.zv2)≤l.length) (hlen:l.length≤60000):zd1 L:=by
 have c1:L.calls.length≤szC L.calls:=by unfold szC;omega
 have v1:L.values.length≤szV L.values:=zg4 _ (fun a=>by omega) _
 have p1:L.pending.length≤szP L.pending:=zg4 _ (fun a=>by omega) _
 have h1:L.holds.length≤szH L.holds:=zg4 _ (fun a=>by omega) _
 have r1:L.zv2.length≤szH L.zv2:=zg4 _ (fun a=>by omega) _
 have hset:∀m:List (ID × ye),QH m→szH m≤60000→∀p∈m,Xw p.2.mem:=fun m hq hsz p hp=>by
  refine⟨fun x hx=>?_,?_⟩
  ·have:=hq.2 p hp x hx
   exact zn2 (by omega) (by omega)
  ·have:=le_sz (fun p:ID × ye=>p.1.key.size+11+2*p.2.mem.length) m p hp
   unfold szH at hsz;omega
 refine⟨by omega,fun p hq=>?_,by omega,fun p hq=>?_,by omega,by omega,by omega,by omega,hset _ hh (by omega),hset _ hr (by omega),?_⟩
 ·have:=hc.2 p hq
  exact zn2 (by omega) (by omega)
 ·have:=hv.2 p hq
  unfold maxLen;omega
 ·unfold qa
  have e8s:(L.zv0.flatMap e8).length=8*L.zv0.length:=by rw[Uj e8 (fun _=>8) _ (fun a=>za8 a),zcb]
  simp only[List.length_append,Qt,za8,zjg,zjj,zji hp,zb7 hh.1,zb7 hr.1,e8s];omega
theorem zh3 {l:List Int} {L:Tab} (hl:BL l) (hlen:l.length≤60000) (h:zd5 l=some L):zd1 L:=by
 unfold zd5 at h
 cases e1:rd 2 l with
 | none=>rw[e1] at h;cases h
 | some n=>
 rw[e1,Option.bind_some] at h;have b1:=xz hl e1;have l1:=Yn e1
 cases e2:rd 2 n.2 with
 | none=>rw[e2] at h;cases h
 | some w=>
 rw[e2,Option.bind_some] at h;have b2:=xz b1.2.2 e2;have l2:=Yn e2
 cases e3:rd 8 w.2 with
 | none=>rw[e3] at h;cases h
 | some o=>
 rw[e3,Option.bind_some] at h;have b3:=xz b2.2.2 e3;have l3:=Yn e3
 cases e4:rd 8 o.2 with
 | none=>rw[e4] at h;cases h
 | some x=>
 rw[e4,Option.bind_some] at h;have b4:=xz b3.2.2 e4;have l4:=Yn e4;unfold fX at h
 split at h
 case isFalse=>cases h
 rename_i hf
 simp only[zp3,Bool.and_eq_true,decide_eq_true_eq] at hf;have hn:=n_le hf.1.1.1;unfold fL at h
 cases e5:Vn (s64 o.1) n.1 0 (List.replicate n.1 0) x.2 with
 | none=>rw[e5] at h;cases h
 | some li=>
 rw[e5,Option.bind_some] at h;have b5:=zdr _ _ _ _ _ _ b4.2.2 e5;rw[List.length_replicate] at b5;unfold fC0 at h
 cases e6:rd 4 li.2 with
 | none=>rw[e6] at h;cases h
 | some c6=>
 rw[e6,Option.bind_some] at h;unfold fC at h
 cases e7:rep zap c6.1 [] c6.2 with
 | none=>rw[e7] at h;cases h
 | some ca=>
 rw[e7,Option.bind_some] at h;have b7:=zq5.count (a:=[]) b5.2.2 ⟨by simp,fun p hp=>by cases hp⟩ e6 e7
 unfold fV0 at h
 cases e8:rd 4 ca.2 with
 | none=>rw[e8] at h;cases h
 | some c8=>
 rw[e8,Option.bind_some] at h;unfold fV at h
 cases e9:rep (zds (s64 x.1)) c8.1 [] c8.2 with
 | none=>rw[e9] at h;cases h
 | some va=>
 rw[e9,Option.bind_some] at h;have b9:=(ztj (s64 x.1)).count (a:=[]) b7.1 ⟨by simp,fun p hp=>by cases hp⟩ e8 e9
 unfold fP0 at h
 cases e10:rd 4 va.2 with
 | none=>rw[e10] at h;cases h
 | some c10=>
 rw[e10,Option.bind_some] at h;unfold fP at h
 cases e11:rep (zaq (s64 x.1)) c10.1 [] c10.2 with
 | none=>rw[e11] at h;cases h
 | some pe=>
 rw[e11,Option.bind_some] at h;have b11:=(zq6 (s64 x.1)).count (a:=[]) b9.1 (by simp[QP]) e10 e11
 unfold fH Xq at h
 cases e12:rd 4 pe.2 with
 | none=>rw[e12] at h;cases h
 | some c12=>
 rw[e12] at h;simp only[Option.bind_some] at h;rw[zar] at h
 cases e13:rep (zaz n.1) c12.1 [] c12.2 with
 | none=>rw[e13] at h;cases h
 | some ho=>
 rw[e13,Option.bind_some] at h;have b13:=(zlx n.1).count (a:=[]) b11.1 ⟨by simp,fun p hp=>by cases hp⟩ e12 e13
 unfold fR Xq at h
 cases e14:rd 4 ho.2 with
 | none=>rw[e14] at h;cases h
 | some c14=>
 rw[e14] at h;simp only[Option.bind_some] at h;rw[zar] at h
 cases e15:rep (zaz n.1) c14.1 [] c14.2 with
 | none=>rw[e15] at h;cases h
 | some re=>
 rw[e15,Option.bind_some] at h;have b15:=(zlx n.1).count (a:=[]) b13.1 ⟨by simp,fun p hp=>by cases hp⟩ e14 e15
 cases h
 have z1:szC []=0:=rfl;have z2:szV []=0:=rfl;have z3:szP []=0:=rfl;have z4:szH []=0:=rfl;refine zp4 (l:=l) b7.2.1 b9.2.1 b11.2.1 b13.2.1 b15.2.1 (by show li.1.length≤255;omega) ?_ hlen
 show 20+8*li.1.length+(4+szC ca.1)+(4+szV va.1)+(4+szP pe.1)+(4+szH ho.1)+(4+szH re.1)≤l.length
 have h7:=b7.2.2;have h9:=b9.2.2;have h11:=b11.2.2;have h13:=b13.2.2;have h15:=b15.2.2;omega
theorem BL.flat {α:Type} (f:α→List Int) (h:∀a,BL (f a)):∀l:List α,BL (l.flatMap f)
 | []=>fun b hb=>by simp at hb
 | a :: r=>by rw[List.flatMap_cons];exact(h a).app (BL.flat f h r)
theorem zgr (x:Int):BL (e2 x):=zaw _ _
theorem zpz (x:Int):BL (e4 x):=zaw _ _
theorem zgs (x:Int):BL (e8 x):=zaw _ _
theorem zp0 (b:Bool):BL (zf0 b):=zaw _ _
theorem zog (i:ID):BL (eID i):=((zaw _ _).app (zav _)).app (zgs _)
theorem zs6 (p:Int × yz):BL (zc7 p):=((((zgr _).app (zgs _)).app (zgs _)).app (zp0 _)).app (zgr _)
theorem valB_BL (p:ByteArray × Val):BL (zew p):=(zog _).app (zp0 _)
theorem zul (p:ID × xd):BL (zdn p):=((zog _).app (zgr _)).app (zgs _)
theorem setB_BL (p:ID × ye):BL (zhv p):=((zog _).app (zgr _)).app (BL.flat _ zgr _)
theorem znm (m:List (ID × ye)):BL (jf m):=(zpz _).app (BL.flat _ (fun _=>setB_BL _) _)
theorem zka (T:Tab):BL (qa T):=by
 unfold qa;refine(((((((((zgr _).app (zgr _)).app (zgs _)).app (zgs _)).app (BL.flat _ zgs _)).app ?_).app ?_).app ?_).app (znm _)).app (znm _)
 ·exact(zpz _).app (BL.flat _ (fun _=>zs6 _) _)
 ·exact(zpz _).app (BL.flat _ (fun _=>valB_BL _) _)
 ·exact(zpz _).app (BL.flat _ (fun _=>zul _) _)
theorem zlc {α:Type} (g:α→Nat) (c:Nat):∀l:List α,(∀a∈l,g a≤c)→(l.map g).sum≤c*l.length
 | [],_=>by simp
 | a :: r,h=>by
  have h1:=h a (by simp)
  have h2:=zlc g c r fun b hb=>h b (List.mem_cons_of_mem _ hb)
  simp only[List.map_cons,List.sum_cons,List.length_cons,Nat.mul_succ];omega
section
variable {n k j : Nat} {L : Tab} {R : yp}
theorem zg3 {K V V':Type} [DecidableEq K] {a:List (K × V)} {b:List (K × V')} (ha:(a.map (·.1)).Nodup) (h:∀p∈a,(zt b p.1).isSome=true):a.length≤b.length:=by
 have:=zb4 (a.map (·.1)) (b.map (·.1)) ha fun x hx=>by
  obtain⟨p,hp,rfl⟩:=List.mem_map.1 hx
  exact Zh.2 (h p hp)
 simpa using this
theorem zp8 {a:List (ID × ye)} {l:List ue} (ha:(a.map (·.1)).Nodup) (h:∀p∈a,∃x∈l,x.id=p.1):a.length≤l.length:=by
 have:=zb4 (a.map (·.1)) (l.map (·.id)) ha fun x hx=>by
  obtain⟨p,hp,rfl⟩:=List.mem_map.1 hx;obtain⟨y,hy,e⟩:=h p hp
  exact List.mem_map.2 ⟨y,hy,e⟩
 simpa using this
structure Up (n k j:Nat) (L:Tab) (R:yp):Prop where
 both:Ja n k j L R
 rng:Rng L
 tidy:zge L
 nod:Nod L
theorem zg7 {m:List (ID × ye)} (hn:(m.map (·.1)).Nodup) {p:ID × ye} (hp:p∈m) (h:p.2.mem≠[]):∃x,x∈memH m p.1:=by
 cases e:p.2.mem with
 | nil=>exact absurd e h
 | cons x r=>exact⟨x,by unfold memH;rw[vo hn hp];simp[e]⟩
theorem Up.lens (h:Up n k j L R):L.calls.length≤j∧L.values.length≤j∧L.pending.length≤j∧L.holds.length≤j∧L.zv2.length≤j:=by
 have s:=h.both.sim.s0;have b:=h.both.rb;have isS:∀{K V:Type} [DecidableEq K] {m m':List (K × V)} (hn:(m.map (·.1)).Nodup) (he:∀i,zt m' i=zt m i) (p:K × V),p∈m→(zt m' p.1).isSome=true:=fun hn he p hp=>by rw[he,vo hn hp];rfl
 refine⟨Nat.le_trans (zg3 h.nod.c (isS h.nod.c s.calls)) b.lc,Nat.le_trans (zg3 h.nod.v (isS h.nod.v s.vals)) b.lv,Nat.le_trans (zg3 h.nod.p (isS h.nod.p s.zv1)) b.lp,Nat.le_trans (zp8 h.nod.h fun p hp=>?_) b.lh,Nat.le_trans (zp8 h.nod.r fun p hp=>?_) b.lh⟩
 ·obtain⟨x,hx⟩:=zg7 h.nod.h hp (h.tidy.h p hp).1
  obtain⟨y,hy,e,_⟩:=(s.hold _ _).1 hx
  exact⟨y,hy,e⟩
 ·obtain⟨x,hx⟩:=zg7 h.nod.r hp (h.tidy.r p hp).1
  obtain⟨y,hy,e,_⟩:=(s.refu _ _).1 hx
  exact⟨y,hy,e⟩
theorem Up.told (h:Up n k j L R) (hj:j≤900) (cn:vm n=n) (cw:yu n k=k):zjz n k L:=by
 have l:=h.lens;have b:=h.both.rb;have s:=h.both.sim.s0;have h1:=s.next;have h2:=s.offers;have h3:=b.o1;have h4:=b.x1
 exact⟨h.both.inv,h.rng,h.tidy,h.nod,cn,cw,by omega,by omega,by omega,by omega,by omega,by omega,by omega⟩
theorem Up.fit (h:Up n k j L R) (hj:j≤80) (hn:n≤13) (cn:vm n=n) (cw:yu n k=k):zd1 L∧(qa L).length≤60000:=by
 have l:=h.lens;have T:=h.told (by omega) cn cw
 have hln:=h.both.inv.ln;have vs:szV L.values≤74*L.values.length:=zlc _ 74 _ fun p hp=>by have:=(h.rng.v p hp).2;omega
 have ps:szP L.pending≤83*L.pending.length:=zlc _ 83 _ fun p hp=>by have:=(h.rng.p p hp).k;omega
 have hs:∀{m:List (ID × ye)},Xh n m→(∀p∈m,p.1.key.size≤64)→szH m≤101*m.length:=fun {m} hm hk=>zlc _ 101 _ fun p hp=>by
  have h1:=hk p hp;have h2:=Yt n _ (hm.mem p hp).1 (hm.mem p hp).2;omega
 have hh:=hs h.both.inv.hm fun p hp=>(T.id (h.tidy.h p hp).2).1
 have hr:=hs h.both.inv.rm fun p hp=>(T.pendId (h.tidy.r p hp).2).1
 have cs:szC L.calls=21*L.calls.length:=rfl;have qh:∀{m:List (ID × ye)},(m.map (·.1)).Nodup→Xh n m→QH m:=fun {m} hn1 hm=>⟨hn1,fun p hp x hx=>by have:=(hm.mem p hp).2 x hx;omega⟩
 have e8s:(L.zv0.flatMap e8).length=8*L.zv0.length:=by rw[Uj e8 (fun _=>8) _ (fun a=>za8 a),zcb]
 have hE:(qa L).length=20+8*L.zv0.length+(4+szC L.calls)+(4+szV L.values)+(4+szP L.pending)+(4+szH L.holds)+(4+szH L.zv2):=by
  unfold qa;simp only[List.length_append,Qt,za8,zjg,zjj,zji h.nod.p,zb7 h.nod.h,zb7 h.nod.r,e8s]
 have hlen:(qa L).length≤60000:=by rw[hE];omega
 refine⟨zp4 (l:=qa L) ⟨h.nod.c,fun p hp=>⟨(h.rng.c p hp).c0,(h.rng.c p hp).c1⟩⟩ ⟨h.nod.v,fun p hp=>by have:=(h.rng.v p hp).2;omega⟩ h.nod.p (qh h.nod.h h.both.inv.hm) (qh h.nod.r h.both.inv.rm) (by omega) (by omega) hlen,hlen⟩
theorem Up.again (h:Up n k j L R) (hj:j≤80) (hn:n≤13) (cn:vm n=n) (cw:yu n k=k):zd5 (qa L)=some (za6 L)∧qa (za6 L)=qa L∧Up n k j (za6 L) R∧∀L',zd5 (qa L)=some L'→zd1 L':=by
 have a:=ze1 h.nod;have b:=zii h.nod
 exact⟨ztd (h.told (by omega) cn cw),zqz h.nod,⟨⟨h.both.inv.alike a b,h.both.sim.alike a b,h.both.rb⟩,h.rng.alike a b,h.tidy.alike a b,b⟩,fun L' e=>zh3 (zka L) (h.fit hj hn cn cw).2 e⟩
theorem Up.same {U:Tab} (h:Up n k j L R) (g:Up n k j U R):qa L=qa U:=zil (zj1 h.both.inv g.both.inv h.both.sim g.both.sim h.tidy g.tidy) h.nod g.nod
theorem Up.act {c:Cmd} (h:Up n k j L R) (hj:j≤900) (hnod:Nod (Xz L c)):Up n k (j+1) (Xz L c) (zbh R c):=by
 have h1:=h.both.sim.s0.next;have h2:=h.both.rb.x1
 exact⟨zd3 h.both c,rng_act h.both.inv h.rng (by omega),zvh h.tidy c,hnod⟩
end
section
variable {bs : Nat → Prop} {w : World} {tb : Nat} {L : Tab}
theorem At.nod (h:At bs w tb L):Nod L:=by
 obtain⟨T,hT,rfl,_⟩:=h.ex;refine⟨hT.calls.nodup,hT.values.nodup,hT.pending.nodup,?_,?_⟩
 ·show((vp T.holds).map (·.1)).Nodup
  rw[zcr];exact hT.holds.nodup
 ·show((vp T.zv2).map (·.1)).Nodup
  rw[zcr];exact hT.zv2.nodup
theorem zc6 (h:At bs w tb L) (hf:zd1 L):Calls Tryz.prog 40 #[.pointer (some ⟨tb,0,none⟩)] w fun e w'=>∃v,e = .returned v∧w'.ownsRow w.heap.size 5 1 v (qa L).length (zu (qa L))∧w.grownBy w' none:=by
 obtain⟨T,hT,rfl,_⟩:=h.ex;rw[Jg]
 exact zbt hT hf.of_norm
theorem zq8 {n k j:Nat} {R:yp} {W:World} {v:Value} (h:Up n k j L R) (hj:j≤80) (hn:n≤13) (cn:vm n=n) (cw:yu n k=k) (hv:uy W.heap.size W v (qa L)):Calls Tryz.prog 41 #[v] W fun e w'=>∃tb',e = .returned (.tuple #[.pointer (some ⟨tb',0,none⟩),.int .i64 0])∧At (fun b=>W.heap.size≤b) w' tb' (za6 L)∧W.grownBy w' none:=by
 obtain⟨hd,he,hK,hf⟩:=h.again hj hn cn cw;refine(zgw hv (zka L) hf).mono ?_;rintro e w' ⟨hg,⟨tb',T,rfl,h1,h2,h3,h4⟩|⟨_,hr⟩⟩
 ·rw[hd] at h1
  exact⟨tb',rfl,⟨T,h3,(Option.some.inj h1).symm,h4⟩,hg⟩
 ·exact absurd he (hr _ hd)
end
end Go.Proofs.YtjfelfjobeeenaaGreat
