/- m[k] = v in two steps (an entry, and a store to it): a law on maps as typed rows of pairs. Conditions: as the theorem says. -/
import Derived.Test.YtbcbhlfjgobejaaGreatD1
set_option linter.unusedSimpArgs false
set_option linter.unusedVariables false
namespace Go.Sf
open Go.MapKept Go.RowKit
open Go.ChangeMaps (setBlock)
section
variable {P : Program} {K V : Type} [DecidableEq K] {ek : K → Value} {ev : V → Value} {w : World} {b : Nat} {m : List (K × V)} {kt et t : TypeId}
theorem setBlock_set (w:World) (b:Nat) (o o':Obj):setBlock (setBlock w b o) b o'=setBlock w b o':=by
 simp[setBlock]
theorem find_born {es:List MapEntry} (hn:(es.map (·.born)).Nodup) {j:Nat} {e:MapEntry} (h:es[j]? = some e):es.findIdx? (fun x=>((x.born:Int) == (e.born:Int)))=some j:=by
 rw[List.findIdx?_eq_some_iff_getElem]
 obtain⟨hj,rfl⟩:=List.getElem?_eq_some_iff.1 h
 refine⟨hj,by simp,fun i hi=>?_⟩
 have hil:i<es.length:=by omega
 intro hb
 have hb3:((es[i].born:Nat):Int)=es[j].born:=by simpa using hb
 have hb2:es[i].born=es[j].born:=by omega
 have h1:(es.map (·.born))[i]'(by simpa using hil)=(es.map (·.born))[j]'(by simpa using hj):=by simpa using hb2
 have:=(List.getElem_inj hn).1 h1
 omega
theorem MapT.entry (KE:KEnc P kt ek) (ht:P.underlying t=some (.map kt et)) {z:Value} (hz:∀w,(zeroValue et).run P w = .ok z w) (h:MapT w b ek ev m) (k:K) :
  ∃w1 v0 s,(Instr.mapEntry t (.map (some b)) (ek k)).run P w = .ok (.tuple #[v0,.int .i64 s]) w1∧w.grownBy w1 (some b)∧w1.heap.size=w.heap.size∧
   ∀(u:V) (ty:TypeId),∃w2,(Instr.entryStore ty (.map (some b)) (.int .i64 s) (ev u)).run P w1 = .ok () w2∧MapT w2 b ek ev (mput m k u)∧w.grownBy w2 (some b)∧w2.heap.size=w.heap.size:=by
 have hnd:=h.nodup
 obtain⟨es,clock,hb,hs,he⟩:=h
 have hlt:b<w.heap.size:=(Array.getElem?_eq_some_iff.1 hb).1
 have hkeys:∀x∈es.toList,∃k',x.key=ek k':=fun x hx=>by obtain⟨p,_,e,_⟩:=pairs_key he x hx;exact⟨p.1,e⟩
 have grown:∀o,w.grownBy (setBlock w b o) (some b)∧(setBlock w b o).heap.size=w.heap.size:=fun o=>
  ⟨⟨rfl,rfl,rfl,by simp[setBlock],fun i _ hi=>(heap_set hb).2 i (fun e=>hi (by rw[e]))⟩,by simp[setBlock]⟩
 have hsame:∀o:Obj,(setBlock w b o).heap[b]? = some o:=fun o=>by simp[setBlock,hlt]
 rcases KE.find k es.toList w hkeys with ⟨h1,h2⟩|⟨j,e,h1,h2,h3⟩
 ·have hne:∀p∈m,p.1≠k:=fun p hp e=>by
   obtain⟨x,hx,e1,_⟩:=pairs_mem he p hp
   exact h2 x hx (by rw[e1,e])
  refine⟨setBlock w b (.map (es.push { key:=ek k,val:=z,born:=clock }) (clock+1)),z,clock,?_,(grown _).1,(grown _).2,fun u ty=>⟨setBlock w b (.map (es.push { key:=ek k,val:=ev u,born:=clock }) (clock+1)),?_,⟨_,_,hsame _,stamped_push hs (fun x hx=>h2 x hx),?_⟩,(grown _).1,(grown _).2⟩⟩
  ·simp only[Instr.mapEntry,Sem.run_bind,run_underlying ht,Result.andThen,getObj,Sem.run,hb,KE.check,h1,setObj,setBlock,hz,goInt,Sem.run_pure]
  ·have hst:=stamped_push hs (key:=ek k) (val:=z) (fun x hx=>h2 x hx)
   have hf:(es.push { key:=ek k,val:=z,born:=clock }).findIdx? (fun x=>((x.born:Int) == (clock:Int)))=some es.size:=by
    have:=find_born (es:=(es.push { key:=ek k,val:=z,born:=clock }).toList) hst.2.1 (j:=es.size) (e:={ key:=ek k,val:=z,born:=clock }) (by simp)
    rw[←Array.toArray_toList (xs:=es.push { key:=ek k,val:=z,born:=clock }),List.findIdx?_toArray]
    exact this
   have hm:(es.push { key:=ek k,val:=z,born:=clock }).modify es.size (fun e=>{ e with val:=ev u })=es.push { key:=ek k,val:=ev u,born:=clock }:=by
    apply Array.ext_getElem?
    intro i
    rw[Array.getElem?_modify]
    by_cases hi:es.size=i
    ·subst hi;simp
    ·have:¬i=es.size:=fun e=>hi e.symm
     simp[hi,Array.getElem?_push,this]
   have hai:(asInt (.int .i64 (clock:Int))).run P (setBlock w b (.map (es.push { key:=ek k,val:=z,born:=clock }) (clock+1))) = .ok (clock:Int) (setBlock w b (.map (es.push { key:=ek k,val:=z,born:=clock }) (clock+1))):=rfl
   simp only[Instr.entryStore,Sem.run_bind,Result.andThen,getObj,Sem.run,hsame,hai,hf,setObj,hm]
   exact congrArg (Result.ok ()) (setBlock_set w b _ _)
  ·rw[mput_new hne]
   simp[he]
 ·obtain⟨p,hp,e1,e2⟩:=pairs_get he h2
  have hk:p.1=k:=KE.inj _ _ (e1.symm.trans h3)
  have hej:es[j]? = some e:=by simpa using h2
  have hjl:j<es.size:=(Array.getElem?_eq_some_iff.1 hej).1
  have hst:=stamped_modify hs j (fun e=>{ e with key:=ek k }) (fun _ _=>rfl) (fun x _ hx=>by rw[hej] at hx;cases hx;exact h3.symm)
  refine⟨setBlock w b (.map (es.modify j fun e=>{ e with key:=ek k }) clock),e.val,e.born,?_,(grown _).1,(grown _).2,fun u ty=>⟨setBlock w b (.map (es.modify j fun e=>{ e with key:=ek k,val:=ev u }) clock),?_,⟨_,_,hsame _,stamped_modify hs j _ (fun _ _=>rfl) (fun x _ hx=>?_),?_⟩,(grown _).1,(grown _).2⟩⟩
  ·have hk2:((es[j]?).map (·.key)).getD (ek k)=ek k:=by rw[hej];exact h3
   have hk3:((es[j]?).map (fun x=>(x.born:Int))).getD 0=(e.born:Int):=by rw[hej];rfl
   simp only[Instr.mapEntry,Sem.run_bind,run_underlying ht,Result.andThen,getObj,Sem.run,hb,KE.check,h1,hk2,hk3,Instr.keyThatStays,KE.same,if_true,Sem.run_pure,setObj,setBlock,goInt]
  ·have hf:(es.modify j fun e=>{ e with key:=ek k }).findIdx? (fun x=>((x.born:Int) == (e.born:Int)))=some j:=by
    have:=find_born (es:=(es.modify j fun e=>{ e with key:=ek k }).toList) hst.2.1 (j:=j) (e:={ e with key:=ek k }) (by simp[hej])
    rw[←Array.toArray_toList (xs:=es.modify j fun e=>{ e with key:=ek k }),List.findIdx?_toArray]
    exact this
   have hm:(es.modify j fun e=>{ e with key:=ek k }).modify j (fun e=>{ e with val:=ev u })=es.modify j fun e=>{ e with key:=ek k,val:=ev u }:=by
    apply Array.ext_getElem?
    intro i
    simp only[Array.getElem?_modify]
    by_cases hi:j=i
    ·subst hi;simp[hej]
    ·simp[hi]
   have hai:(asInt (.int .i64 (e.born:Int))).run P (setBlock w b (.map (es.modify j fun e=>{ e with key:=ek k }) clock)) = .ok (e.born:Int) (setBlock w b (.map (es.modify j fun e=>{ e with key:=ek k }) clock)):=rfl
   simp only[Instr.entryStore,Sem.run_bind,Result.andThen,getObj,Sem.run,hsame,hai,hf,setObj,hm]
   exact congrArg (Result.ok ()) (setBlock_set w b _ _)
  ·rw[hej] at hx;cases hx;exact h3.symm
  ·rw[←hk,mput_at hnd hp]
   apply List.ext_getElem?
   intro i
   simp only[List.getElem?_map,Array.getElem?_toList,Array.getElem?_modify,List.getElem?_set]
   have hj:=congrArg (fun l=>l[i]?) he
   simp only[List.getElem?_map,Array.getElem?_toList] at hj
   by_cases hij:j=i
   ·subst hij
    have hlen:j<m.length:=(List.getElem?_eq_some_iff.1 hp).1
    simp[hej,hlen]
   ·simp[hij,hj]
end
end Go.Sf
