/- A disk's step, Sync: the walks. Conditions: none, or as the theorems say. -/
import Derived.Test.YtbcbhlfjgobejaaGreatS6
import Derived.Test.YtbcbhlfjgobejaaGreatS1
set_option linter.unusedSimpArgs false
set_option linter.unusedVariables false
namespace Go.Proofs.YtbcbhlfjgobejaaGreat
set_option maxHeartbeats 200000000
open Go.RowKit Go.Sf
theorem zgi (a:Int):wrap64 (wrap64 a+1)=wrap64 (a+1):=by unfold wrap64;omega
set_option maxRecDepth 100000 in
theorem dwrite1 (W:World):Calls Tryz.prog 102 #[] W λe w'=>e = .returned (.tuple #[])∧w'=W:=by
 go_enter Tryz.func102,Tryz.ntmps102
 go_wp2
 first|go_end0|refine bodyPost_ret (results_none rfl _ _ _) rfl ?_
 exact⟨rfl,rfl⟩
section
variable {own : Nat → Prop} {W W' : World} {db sb nb : Nat} {lv : Value} {d : Dk}
theorem DAt.step (h:DAt own W db sb nb lv d):DAt own (W.setCell ⟨db,4,none⟩ (.int .i64 (wrap64 (wrap64 d.steps+1)))) db sb nb lv { d with steps:=d.steps+1 }:=
 h.set 4 _ { d with steps:=d.steps+1 } (by rw[zgi];rfl) rfl rfl rfl rfl h.w0 h.w1
theorem DAt.went (h:DAt own W db sb nb lv { d with steps:=d.steps+1 }) {m:Int} (hm:m=max (-1) (d.well-1)):DAt own (W.setCell ⟨db,5,none⟩ (.int .i64 m)) db sb nb lv d.went:=by
 subst hm;have h0 : -1≤d.well:=h.w0;have h1:d.well<9223372036854775808:=h.w1
 exact h.set 5 _ d.went rfl rfl rfl rfl rfl (by show -1≤max (-1) (d.well-1);omega) (by show max (-1) (d.well-1)<_;omega)
set_option maxRecDepth 100000 in
theorem dstepW (h:DAt own W db sb nb lv d):Calls Tryz.prog 101 #[.pointer (some ⟨db,0,none⟩),.func (.func 102) #[] #[]] W (if d.stepB=true then uk own W db d.went (.int .i64 0) else uk own W db d.gone (.int .i64 180)):=by
 have h1:=h.step;have w0:=h.w0;have w1:=h.w1;obtain⟨c0,c1,c2,c3,c4,c5,c6,y⟩:=h.cells;have HC:Hid (∀m,m=max (-1) (d.well-1)→DAt own ((W.setCell ⟨db,4,none⟩ (.int .i64 (wrap64 (wrap64 d.steps+1)))).setCell ⟨db,5,none⟩ (.int .i64 m)) db sb nb lv d.went∧zm (λk=>¬own k) W ((W.setCell ⟨db,4,none⟩ (.int .i64 (wrap64 (wrap64 d.steps+1)))).setCell ⟨db,5,none⟩ (.int .i64 m))):=(λm hm=>⟨h1.went hm,(ju h _ _).trans (ju h1 _ _)⟩)
 by_cases hw:d.well=0
 ·rw[if_neg (by simp[Dk.stepB,hw])]
  have HCR:Hid (Calls Tryz.prog 41 #[.pointer (some ⟨db,0,none⟩)] (W.setCell ⟨db,4,none⟩ (.int .i64 (wrap64 (wrap64 d.steps+1)))) (uk own (W.setCell ⟨db,4,none⟩ (.int .i64 (wrap64 (wrap64 d.steps+1)))) db d.gone (.tuple #[]))):=(show Calls _ _ _ _ _ from dcrash ⟨_,_,_,h1⟩)
  have HT1:=zd (ju h 4 (.int .i64 (wrap64 (wrap64 d.steps+1))));clear h h1;generalize d.steps=st at *;generalize d.n=dn at *;rw[hw] at c5
  go_enter Tryz.func101,Tryz.ntmps101
  go_wp2_with (go_at_call 41;refine HCR.out.mono ?_;rintro e w1 ⟨rfl,hd,ht⟩;have HD:=zd hd;have HT:=zd ht;clear hd ht)
  go_ret
  exact⟨rfl,HD.out,HT1.out.trans HT.out⟩
 ·rw[if_pos (by simp[Dk.stepB,hw])]
  clear h h1
  go_enter Tryz.func101,Tryz.ntmps101
  go_wp2_with (go_at_call 102;refine(dwrite1 _).mono ?_;rintro e w1 ⟨rfl,h5⟩;subst h5)
  all_goals go_ret
  all_goals exact⟨rfl,⟨_,_,_,(HC.out _ (by omega)).1⟩,(HC.out _ (by omega)).2⟩
set_option maxRecDepth 100000 in
theorem dstepS (h:DAt own W db sb nb lv d) {cb:Nat} (hcb:W.cell? ⟨cb,0,none⟩=some (.pointer (some ⟨db,0,none⟩))) (hne:db≠cb):Calls Tryz.prog 101 #[.pointer (some ⟨db,0,none⟩),.func (.func 103) #[] #[.pointer (some ⟨cb,0,none⟩)]] W (if d.stepB=true then uk own W db d.went.settled (.int .i64 0) else uk own W db d.gone (.int .i64 180)):=by
 have h1:=h.step;have w0:=h.w0;have w1:=h.w1;obtain⟨c0,c1,c2,c3,c4,c5,c6,y⟩:=h.cells;have HT0:Hid (∀m,zm (λk=>¬own k) W ((W.setCell ⟨db,4,none⟩ (.int .i64 (wrap64 (wrap64 d.steps+1)))).setCell ⟨db,5,none⟩ (.int .i64 m))):=(λm=>(ju h _ _).trans (ju h1 _ _))
 have HC:Hid (∀m,m=max (-1) (d.well-1)→Calls Tryz.prog 103 #[.pointer (some ⟨cb,0,none⟩)] ((W.setCell ⟨db,4,none⟩ (.int .i64 (wrap64 (wrap64 d.steps+1)))).setCell ⟨db,5,none⟩ (.int .i64 m)) (uk own ((W.setCell ⟨db,4,none⟩ (.int .i64 (wrap64 (wrap64 d.steps+1)))).setCell ⟨db,5,none⟩ (.int .i64 m)) db d.went.settled (.tuple #[]))):=(λm hm=>dsync1 (h1.went hm) (yn (Or.inl (Ne.symm hne)) (yn (Or.inl (Ne.symm hne)) hcb)) hne)
 by_cases hw:d.well=0
 ·rw[if_neg (by simp[Dk.stepB,hw])]
  have HCR:Hid (Calls Tryz.prog 41 #[.pointer (some ⟨db,0,none⟩)] (W.setCell ⟨db,4,none⟩ (.int .i64 (wrap64 (wrap64 d.steps+1)))) (uk own (W.setCell ⟨db,4,none⟩ (.int .i64 (wrap64 (wrap64 d.steps+1)))) db d.gone (.tuple #[]))):=(show Calls _ _ _ _ _ from dcrash ⟨_,_,_,h1⟩)
  have HT1:=zd (ju h 4 (.int .i64 (wrap64 (wrap64 d.steps+1))));clear h h1;generalize d.steps=st at *;generalize d.n=dn at *;rw[hw] at c5
  go_enter Tryz.func101,Tryz.ntmps101
  go_wp2_with (go_at_call 41;refine HCR.out.mono ?_;rintro e w1 ⟨rfl,hd,ht⟩;have HD:=zd hd;have HT:=zd ht;clear hd ht)
  go_ret
  exact⟨rfl,HD.out,HT1.out.trans HT.out⟩
 ·rw[if_pos (by simp[Dk.stepB,hw])]
  clear h h1
  go_enter Tryz.func101,Tryz.ntmps101
  go_wp2_with (go_at_call 103;refine(HC.out _ (by omega)).mono ?_;rintro e w1 ⟨rfl,hd,ht⟩;have HD:=zd hd;have HT:=zd ht;clear hd ht)
  all_goals go_ret
  all_goals exact⟨rfl,HD.out,(HT0.out _).trans HT.out⟩
def Dk.syncV (d:Dk):Int:=if d.off=true then 180 else if d.stepB=true then 0 else 180
def Dk.synced (d:Dk):Dk:=if d.off=true then d else if d.stepB=true then d.went.settled else d.gone
set_option maxRecDepth 100000 in
theorem dsync (h:vk own W db d):Calls Tryz.prog 25 #[.pointer (some ⟨db,0,none⟩)] W (uk own W db d.synced (.int .i64 d.syncV)):=by
 have hlt:=h.dlt;have H:=zd h;have HG:=zd (ze W (.cells #[.pointer (some ⟨db,0,none⟩)] 28) none);have H2:=zd (h.kept HG.out);obtain⟨sb,nb,lv,h⟩:=h.ex;obtain⟨c0,c1,c2,c3,c4,c5,c6,y⟩:=h.cells;clear h
 cases ho:d.off
 ·have HS:Hid (Calls Tryz.prog 101 #[.pointer (some ⟨db,0,none⟩),.func (.func 103) #[] #[.pointer (some ⟨W.heap.size,0,none⟩)]] (W.alloc (.cells #[.pointer (some ⟨db,0,none⟩)] 28)) (uk own (W.alloc (.cells #[.pointer (some ⟨db,0,none⟩)] 28)) db d.synced (.int .i64 d.syncV))):=(by
   obtain⟨sb,nb,lv,h2⟩:=H2.out.ex;have hs:=dstepS h2 (cb:=W.heap.size) (by simp) (by omega)
   refine hs.mono λe w' hp=>?_
   unfold Dk.synced Dk.syncV;rw[ho];simp only[Bool.false_eq_true,if_false]
   split at hp <;> rename_i hb <;> simp only[hb] <;> exact hp)
  rw[ho] at c6;have hmf:∀(fn:Fn) (first cap:Array Value) (w:World),(Instr.makeFunc fn first cap).run Tryz.prog w = .ok (.func fn first cap) w:=λ_ _ _ _=>rfl
  go_enter Tryz.func25,Tryz.ntmps25
  go_wp2_with (go_at_call 101;refine HS.out.mono ?_;rintro e w1 ⟨rfl,hd,ht⟩;have HD:=zd hd;have HT:=zd ht;clear hd ht)
  go_ret
  exact⟨rfl,HD.out,vo HG.out HT.out⟩
 ·unfold Dk.synced Dk.syncV
  rw[ho];rw[ho] at c6
  go_enter Tryz.func25,Tryz.ntmps25
  go_wp2
  go_ret
  exact⟨rfl,H2.out,vo HG.out (zm.refl _ _)⟩
end
end Go.Proofs.YtbcbhlfjgobejaaGreat
namespace Go.Sf
open Go.MapKept Go.RowKit
open Go.ChangeMaps (setBlock)
section
variable {P : Program} {K V : Type} [DecidableEq K] {ek : K → Value} {ev : V → Value} {w : World} {b : Nat} {m : List (K × V)} {kt et t : TypeId}
theorem zax (w:World) (b:Nat) (o o':Obj):setBlock (setBlock w b o) b o'=setBlock w b o':=by
 simp[setBlock]
theorem zfg {es:List MapEntry} (hn:(es.map (·.born)).Nodup) {j:Nat} {e:MapEntry} (h:es[j]? = some e):es.findIdx? (λx=>((x.born:Int) == (e.born:Int)))=some j:=by
 rw[List.findIdx?_eq_some_iff_getElem];obtain⟨hj,rfl⟩:=List.getElem?_eq_some_iff.1 h;refine⟨hj,by simp,λi hi=>?_⟩
 have hil:i<es.length:=by omega
 intro hb;have hb3:((es[i].born:Nat):Int)=es[j].born:=by simpa using hb
 have hb2:es[i].born=es[j].born:=by omega
 have h1:(es.map (·.born))[i]'(by simpa using hil)=(es.map (·.born))[j]'(by simpa using hj):=by simpa using hb2
 have:=(List.getElem_inj hn).1 h1;omega
theorem yg.entry (KE:zbe P kt ek) (ht:P.underlying t=some (.map kt et)) {z:Value} (hz:∀w,(zeroValue et).run P w = .ok z w) (h:yg w b ek ev m) (k:K) :
  ∃w1 v0 s,(Instr.mapEntry t (.map (some b)) (ek k)).run P w = .ok (.tuple #[v0,.int .i64 s]) w1∧w.grownBy w1 (some b)∧w1.heap.size=w.heap.size∧
   ∀(u:V) (ty:TypeId),∃w2,(Instr.entryStore ty (.map (some b)) (.int .i64 s) (ev u)).run P w1 = .ok () w2∧yg w2 b ek ev (yo m k u)∧w.grownBy w2 (some b)∧w2.heap.size=w.heap.size:=by
 have hnd:=h.nodup;obtain⟨es,clock,hb,hs,he⟩:=h;have hlt:b<w.heap.size:=(Array.getElem?_eq_some_iff.1 hb).1;have hkeys:∀x∈es.toList,∃k',x.key=ek k':=λx hx=>by obtain⟨p,_,e,_⟩:=Xd he x hx;exact⟨p.1,e⟩
 have grown:∀o,w.grownBy (setBlock w b o) (some b)∧(setBlock w b o).heap.size=w.heap.size:=λo=>
  ⟨⟨rfl,rfl,rfl,by simp[setBlock],λi _ hi=>(heap_set hb).2 i (λe=>hi (by rw[e]))⟩,by simp[setBlock]⟩
 have hsame:∀o:Obj,(setBlock w b o).heap[b]? = some o:=λo=>by simp[setBlock,hlt]
 rcases KE.find k es.toList w hkeys with ⟨h1,h2⟩|⟨j,e,h1,h2,h3⟩
 ·have hne:∀p∈m,p.1≠k:=λp hp e=>by
   obtain⟨x,hx,e1,_⟩:=Vr he p hp
   exact h2 x hx (by rw[e1,e])
  refine⟨setBlock w b (.map (es.push { key:=ek k,val:=z,born:=clock }) (clock+1)),z,clock,?_,(grown _).1,(grown _).2,λu ty=>⟨setBlock w b (.map (es.push { key:=ek k,val:=ev u,born:=clock }) (clock+1)),?_,⟨_,_,hsame _,stamped_push hs (λx hx=>h2 x hx),?_⟩,(grown _).1,(grown _).2⟩⟩
  ·simp only[Instr.mapEntry,Sem.run_bind,run_underlying ht,Result.andThen,getObj,Sem.run,hb,KE.check,h1,setObj,setBlock,hz,goInt,Sem.run_pure]
  ·have hst:=stamped_push hs (key:=ek k) (val:=z) (λx hx=>h2 x hx)
   have hf:(es.push { key:=ek k,val:=z,born:=clock }).findIdx? (λx=>((x.born:Int) == (clock:Int)))=some es.size:=by
    have:=zfg (es:=(es.push { key:=ek k,val:=z,born:=clock }).toList) hst.2.1 (j:=es.size) (e:={ key:=ek k,val:=z,born:=clock }) (by simp)
    rw[←Array.toArray_toList (xs:=es.push { key:=ek k,val:=z,born:=clock }),List.findIdx?_toArray]
    exact this
   have hm:(es.push { key:=ek k,val:=z,born:=clock }).modify es.size (λe=>{ e with val:=ev u })=es.push { key:=ek k,val:=ev u,born:=clock }:=by
    apply Array.ext_getElem?
    intro i;rw[Array.getElem?_modify]
    by_cases hi:es.size=i
    ·subst hi;simp
    ·have:¬i=es.size:=λe=>hi e.symm
     simp[hi,Array.getElem?_push,this]
   have hai:(asInt (.int .i64 (clock:Int))).run P (setBlock w b (.map (es.push { key:=ek k,val:=z,born:=clock }) (clock+1))) = .ok (clock:Int) (setBlock w b (.map (es.push { key:=ek k,val:=z,born:=clock }) (clock+1))):=rfl;simp only[Instr.entryStore,Sem.run_bind,Result.andThen,getObj,Sem.run,hsame,hai,hf,setObj,hm]
   exact congrArg (Result.ok ()) (zax w b _ _)
  ·rw[Yo hne]
   simp[he]
 ·obtain⟨p,hp,e1,e2⟩:=Vq he h2
  have hk:p.1=k:=KE.inj _ _ (e1.symm.trans h3);have hej:es[j]? = some e:=by simpa using h2
  have hjl:j<es.size:=(Array.getElem?_eq_some_iff.1 hej).1;have hst:=stamped_modify hs j (λe=>{ e with key:=ek k }) (λ_ _=>rfl) (λx _ hx=>by rw[hej] at hx;cases hx;exact h3.symm)
  refine⟨setBlock w b (.map (es.modify j λe=>{ e with key:=ek k }) clock),e.val,e.born,?_,(grown _).1,(grown _).2,λu ty=>⟨setBlock w b (.map (es.modify j λe=>{ e with key:=ek k,val:=ev u }) clock),?_,⟨_,_,hsame _,stamped_modify hs j _ (λ_ _=>rfl) (λx _ hx=>?_),?_⟩,(grown _).1,(grown _).2⟩⟩
  ·have hk2:((es[j]?).map (·.key)).getD (ek k)=ek k:=by rw[hej];exact h3
   have hk3:((es[j]?).map (λx=>(x.born:Int))).getD 0=(e.born:Int):=by rw[hej];rfl
   simp only[Instr.mapEntry,Sem.run_bind,run_underlying ht,Result.andThen,getObj,Sem.run,hb,KE.check,h1,hk2,hk3,Instr.keyThatStays,KE.same,if_true,Sem.run_pure,setObj,setBlock,goInt]
  ·have hf:(es.modify j λe=>{ e with key:=ek k }).findIdx? (λx=>((x.born:Int) == (e.born:Int)))=some j:=by
    have:=zfg (es:=(es.modify j λe=>{ e with key:=ek k }).toList) hst.2.1 (j:=j) (e:={ e with key:=ek k }) (by simp[hej])
    rw[←Array.toArray_toList (xs:=es.modify j λe=>{ e with key:=ek k }),List.findIdx?_toArray]
    exact this
   have hm:(es.modify j λe=>{ e with key:=ek k }).modify j (λe=>{ e with val:=ev u })=es.modify j λe=>{ e with key:=ek k,val:=ev u }:=by
    apply Array.ext_getElem?
    intro i;simp only[Array.getElem?_modify]
    by_cases hi:j=i
    ·subst hi;simp[hej]
    ·simp[hi]
   have hai:(asInt (.int .i64 (e.born:Int))).run P (setBlock w b (.map (es.modify j λe=>{ e with key:=ek k }) clock)) = .ok (e.born:Int) (setBlock w b (.map (es.modify j λe=>{ e with key:=ek k }) clock)):=rfl
   simp only[Instr.entryStore,Sem.run_bind,Result.andThen,getObj,Sem.run,hsame,hai,hf,setObj,hm]
   exact congrArg (Result.ok ()) (zax w b _ _)
  ·rw[hej] at hx;cases hx;exact h3.symm
  ·rw[←hk,zg3 hnd hp]
   apply List.ext_getElem?
   intro i;simp only[List.getElem?_map,Array.getElem?_toList,Array.getElem?_modify,List.getElem?_set];have hj:=congrArg (λl=>l[i]?) he
   simp only[List.getElem?_map,Array.getElem?_toList] at hj
   by_cases hij:j=i
   ·subst hij
    have hlen:j<m.length:=(List.getElem?_eq_some_iff.1 hp).1;simp[hej,hlen]
   ·simp[hij,hj]
end
end Go.Sf
