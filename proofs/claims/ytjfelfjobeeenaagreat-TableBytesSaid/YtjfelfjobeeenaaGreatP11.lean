/- A table without its blocks' numbers, and what the calls do to it. Conditions: a table that lies in memory. What Missing's closure answers: does a node hold an id? Conditions: a table that lies in memory; the closure's boxes. What any command leaves of a table, and what rises: the plain law. Conditions: a command that may be, of a node that is. -/
import Derived.Test.YtjfelfjobeeenaaGreatP10
import Derived.Test.YtjfelfjobeeenaaGreatP9
namespace Go.Proofs.YtjfelfjobeeenaaGreat
set_option linter.unusedVariables false
set_option linter.unusedSimpArgs false
open Go.RowKit Go.Sf Go.Shelf
def nsets (m:List (ID × NSet)):List (ID × NSet):=m.map fun p=>(p.1,⟨0,p.2.mem⟩)
def Tab.norm (T:Tab):Tab:={ T with holds:=nsets T.holds,refuses:=nsets T.refuses,lb:=0,cb:=0,vb:=0,pb:=0,hb:=0,rb:=0 }
theorem mget_nsets (m:List (ID × NSet)) (i:ID):mget (nsets m) i=(mget m i).map fun s=>⟨0,s.mem⟩:=by
 unfold nsets
 induction m with
 | nil=>rfl
 | cons p r ih=>
  simp only[List.map_cons,mget]
  by_cases e:p.1=i
  ·rw[if_pos e,if_pos e];rfl
  ·rw[if_neg e,if_neg e];exact ih
theorem memH_nsets (m:List (ID × NSet)) (i:ID):memH (nsets m) i=memH m i:=by
 unfold memH;rw[mget_nsets];cases mget m i <;> rfl
theorem smod_nsets (m:List (ID × NSet)) (i:ID) (f:List Int→List Int):nsets (smod m i f)=smod (nsets m) i f:=by
 unfold nsets smod
 rw[List.map_map,List.map_map]
 apply List.map_congr_left
 intro p _
 simp only[Function.comp]
 split <;> rfl
theorem sadd_nsets (m:List (ID × NSet)) (i:ID) (n:Int) (nb:Nat):nsets (sadd m i n nb)=sadd (nsets m) i n 0:=by
 unfold sadd
 rw[mget_nsets]
 cases h:mget m i with
 | none=>simp[nsets]
 | some s=>simp only[Option.isSome_some,Option.map_some,if_true];exact smod_nsets m i _
theorem sdelAll_nsets (m:List (ID × NSet)) (n:Int):nsets (sdelAll m n)=sdelAll (nsets m) n:=by
 unfold nsets sdelAll
 rw[List.map_map,List.map_map]
 rfl
theorem norm_held (T:Tab) (i:ID) (n:Int) (nb:Nat):(heldT T i n nb).norm=heldT T.norm i n 0:=by
 unfold heldT Tab.norm
 simp only[sadd_nsets,smod_nsets]
theorem norm_refused (T:Tab) (i:ID) (n:Int) (nb:Nat):(refusedT T i n nb).norm=refusedT T.norm i n 0:=by
 unfold refusedT Tab.norm
 simp only[sadd_nsets,smod_nsets]
theorem norm_ackRest (T:Tab) (c:Cmd):(ackRest T c).norm=ackRest T.norm c:=by
 unfold ackRest
 show _=(match mget T.pending ⟨c.key,c.ver⟩ with|none=>T.norm|some p=>if ((memH (nsets T.holds) ⟨c.key,c.ver⟩).length:Int)<T.w then T.norm else if (lookV T c.key).ver<c.ver then { doneT T.norm ⟨c.key,c.ver⟩ p 0 with values:=mput T.values c.key ⟨c.ver,false⟩ } else doneT T.norm ⟨c.key,c.ver⟩ p 0)
 cases mget T.pending ⟨c.key,c.ver⟩ with
 | none=>rfl
 | some p=>
  simp only[memH_nsets]
  split
  ·rfl
  ·split <;> rfl
theorem norm_ack (T:Tab) (c:Cmd) (nb:Nat):(ackT T c nb).norm=ackT T.norm c 0:=by
 unfold ackT
 show _=if ackB T c=true then _ else _
 split
 ·rw[norm_ackRest,norm_held]
 ·rfl
theorem norm_refRest (T:Tab) (c:Cmd):(refRest T c).norm=refRest T.norm c:=by
 unfold refRest
 show _=(match mget T.pending ⟨c.key,c.ver⟩ with|none=>T.norm|some p=>if (T.lives.length:Int)-(memH (nsets T.refuses) ⟨c.key,c.ver⟩).length<T.w then doneT T.norm ⟨c.key,c.ver⟩ p 181 else T.norm)
 cases mget T.pending ⟨c.key,c.ver⟩ with
 | none=>rfl
 | some p=>
  simp only[memH_nsets]
  split <;> rfl
theorem norm_ref (T:Tab) (c:Cmd) (nb:Nat):(refuseT T c nb).norm=refuseT T.norm c 0:=by
 unfold refuseT
 show _=if refB T c=true then _ else _
 split
 ·rw[norm_refRest,norm_refused]
 ·rfl
theorem norm_life (T:Tab) (c:Cmd):(lifeT T c).norm=lifeT T.norm c:=by
 unfold lifeT
 show _=if lifeB T c=true then _ else _
 split
 ·unfold lifeStep Tab.norm
  simp[sdelAll_nsets]
 ·rfl
theorem norm_op (T:Tab) (c:Cmd) (nb:Nat):(opT T c nb).norm=opT T.norm c 0:=by
 unfold opT
 repeat' split
 ·rfl
 ·exact norm_life T c
 ·unfold beganT
  show _=if beginsB T c=true then _ else _
  split <;> rfl
 ·exact norm_ack T c nb
 ·exact norm_ref T c nb
 ·unfold removedT
  show _=if beginsB T c=true then _ else _
  split <;> rfl
 ·unfold rejectedT
  show _=if beginsB T c=true then _ else _
  split <;> rfl
theorem norm_clean (T:Tab):(cleanT T).norm=cleanT T.norm:=by
 unfold cleanT Tab.norm nsets
 simp only[List.filter_map]
 rfl
def stepT (T:Tab) (c:Cmd):Tab:=doT T c 0
theorem norm_do (T:Tab) (c:Cmd) (nb:Nat):(doT T c nb).norm=stepT T.norm c:=by
 unfold stepT doT
 rw[norm_clean,norm_op]
structure At (bs:Nat→Prop) (w:World) (tb:Nat) (L:Tab):Prop where
 ex:∃T,TRep w tb T∧T.norm=L∧∀b∈T.blocks tb,bs b
structure Out (bs:Nat→Prop) (w w':World):Prop where
 os:w'.os=w.os
 tape:w'.tape=w.tape
 output:w'.output=w.output
 size:w.heap.size≤w'.heap.size
 block:∀k,k<w.heap.size→¬bs k→w'.heap[k]? = w.heap[k]?
theorem Out.refl (bs:Nat→Prop) (w:World):Out bs w w:=⟨rfl,rfl,rfl,Nat.le_refl _,fun _ _ _=>rfl⟩
theorem Out.trans {bs:Nat→Prop} {a b c:World} (h:Out bs a b) (g:Out bs b c):Out bs a c:=
 ⟨g.os.trans h.os,g.tape.trans h.tape,g.output.trans h.output,Nat.le_trans h.size g.size,fun k hk hn=>(g.block k (Nat.lt_of_lt_of_le hk h.size) hn).trans (h.block k hk hn)⟩
theorem Out.of_grown {a b:World} (h:a.grownBy b none) (bs:Nat→Prop):Out bs a b:=⟨h.os,h.tape,h.output,h.size,fun k hk _=>h.block k hk (by simp)⟩
theorem Out.grown {bs:Nat→Prop} {a b c:World} (h:Out bs a b) (g:b.grownBy c none):Out bs a c:=h.trans (Out.of_grown g bs)
theorem Out.to_grown {bs:Nat→Prop} {a b:World} (h:Out bs a b) (hb:∀k,k<a.heap.size→¬bs k):a.grownBy b none:=⟨h.os,h.tape,h.output,h.size,fun k hk _=>h.block k hk (hb k hk)⟩
theorem At.grown {bs:Nat→Prop} {w w':World} {tb:Nat} {L:Tab} (h:At bs w tb L) (hg:w.grownBy w' none):At bs w' tb L:=by
 obtain⟨T,h1,h2,h3⟩:=h.ex
 exact⟨T,h1.grown hg,h2,h3⟩
theorem At.lt {bs:Nat→Prop} {w:World} {tb:Nat} {L:Tab} (h:At bs w tb L):tb<w.heap.size:=by
 obtain⟨T,h1,h2,h3⟩:=h.ex
 exact h1.tlt
section
variable {bs : Nat → Prop} {w : World} {tb : Nat} {L : Tab}
theorem new_at (nodes wi:Int) (N:Nat) (hN:(N:Int)=clampN nodes) (w:World) (hbs:∀k,w.heap.size≤k→bs k) :
  Calls Tryz.prog 30 #[.int .i64 nodes,.int .i64 wi] w fun e w'=>∃tb,e = .returned (.pointer (some ⟨tb,0,none⟩))∧w.heap.size≤tb∧At bs w' tb (newT N wi 0).norm∧w.grownBy w' none:=by
 refine(new_any nodes wi N hN w).mono ?_
 rintro e w' ⟨tb,he,hle,hT,hg⟩
 refine⟨tb,he,hle,⟨_,hT,rfl,?_⟩,hg⟩
 intro b hb
 apply hbs
 simp only[Tab.blocks,newT,List.map_nil,List.append_nil,List.mem_cons,List.not_mem_nil,or_false] at hb
 omega
theorem look_at (h:At bs w tb L) (k:ByteArray):Calls Tryz.prog 34 #[.pointer (some ⟨tb,0,none⟩),.string k] w fun e w'=>e = .returned (.int .i64 (look L k))∧w.grownBy w' none:=by
 obtain⟨T,h1,rfl,h3⟩:=h.ex
 exact look_any h1 k
theorem wanted_at (h:At bs w tb L) (i:ID):Calls Tryz.prog 36 #[.pointer (some ⟨tb,0,none⟩),encID i] w fun e w'=>e = .returned (.bool (wantedB L i))∧w.grownBy w' none:=by
 obtain⟨T,h1,rfl,h3⟩:=h.ex
 exact wanted_any h1 i
theorem call_at (h:At bs w tb L) (n:Int):Calls Tryz.prog 32 #[.pointer (some ⟨tb,0,none⟩),.int .i64 n] w fun e w'=>e = .returned (encCall (callV L n))∧w.grownBy w' none:=by
 obtain⟨T,h1,rfl,h3⟩:=h.ex
 exact call_any h1 n
theorem next_at (h:At bs w tb L):Calls Tryz.prog 31 #[.pointer (some ⟨tb,0,none⟩)] w fun e w'=>e = .returned (.int .i64 L.next)∧w.grownBy w' none:=by
 obtain⟨T,h1,rfl,h3⟩:=h.ex
 have h2:=next_any h1
 exact h2
theorem life_at (h:At bs w tb L) (n:Int) (hl:L.lives.length≤9223372036854775807):Calls Tryz.prog 23 #[.pointer (some ⟨tb,0,none⟩),.int .i64 n] w fun e w'=>e = .returned (.int .i64 (lifeV L n))∧w.grownBy w' none:=by
 obtain⟨T,h1,rfl,h3⟩:=h.ex
 exact life_any h1 n hl
theorem holdL_norm (T:Tab) (i:ID):holdL T.norm i=holdL T i:=by
 unfold holdL
 show(memH (nsets T.holds) i).mergeSort _=_
 rw[memH_nsets]
theorem holders_at (h:At bs w tb L) (i:ID) (hf:Fits (memH L.holds i)) :
  Calls Tryz.prog 37 #[.pointer (some ⟨tb,0,none⟩),encID i] w fun e w'=>∃v,e = .returned v∧Ints w w' v (holdL L i):=by
 obtain⟨T,h1,rfl,h3⟩:=h.ex
 have hf':Fits (memH T.holds i):=by
  have:memH T.norm.holds i=memH T.holds i:=memH_nsets T.holds i
  rw[this] at hf
  exact hf
 refine(holders_any h1 i hf').mono ?_
 rintro e w' ⟨v,he,hv⟩
 exact⟨v,he,by rw[holdL_norm];exact hv⟩
theorem current_at (h:At bs w tb L) (hr:∀p∈L.values,p.1.size≤maxLen) (hl:L.values.length≤1000000) :
  Calls Tryz.prog 42 #[.pointer (some ⟨tb,0,none⟩)] w fun e w'=>∃v,e = .returned v∧IdRow w.heap.size w' v (curL L)∧w.grownBy w' none:=by
 obtain⟨T,h1,rfl,h3⟩:=h.ex
 have h2:=current_any h1 hr hl
 exact h2
theorem do_at (h:At bs w tb L) (c:Cmd) (hkey:(c.key.size:Int)≤9223372036854775807) (ok:L.Ok) (hm:mayB c=true) (hn:c.node<(L.lives.length:Int)) (h1:1≤c.kind) (h7:c.kind≤7) (n0:0≤c.node) (hbs:∀k,w.heap.size≤k→bs k) :
  Calls Tryz.prog 22 #[.pointer (some ⟨tb,0,none⟩),encCmd c] w fun e w'=>e = .returned (.int .i64 0)∧At bs w' tb (stepT L c)∧Out bs w w':=by
 obtain⟨T,hT,rfl,h3⟩:=h.ex
 have ok':T.Ok:=⟨ok.o0,ok.o1,ok.n0,ok.n1,ok.ln,fun i=>by
  have:=ok.rs i
  rw[show memH T.norm.refuses i=memH T.refuses i from memH_nsets T.refuses i] at this
  exact this⟩
 refine(do_ok hT c hkey ok.ln ok' hm hn h1 h7 n0).mono ?_
 rintro e w' ⟨he,nb,hnb,hT',hC⟩
 refine⟨he,⟨_,hT',norm_do T c nb,?_⟩,⟨hC.1,hC.2.1,hC.2.2.1,hC.2.2.2.1,fun k hk hn=>hC.2.2.2.2 k hk (fun hb=>hn (h3 k hb))⟩⟩
 intro b hb
 have hsub:b∈(opT T c nb).blocks tb:=by
  simp only[doT,cleanT,Tab.blocks,List.mem_cons,List.mem_append,List.mem_map,List.mem_filter] at hb ⊢
  rcases hb with h|h|h|h|h|h|h|⟨x,⟨hx,_⟩,rfl⟩|⟨x,⟨hx,_⟩,rfl⟩
  ·exact Or.inl h
  ·exact Or.inr (Or.inl h)
  ·exact Or.inr (Or.inr (Or.inl h))
  ·exact Or.inr (Or.inr (Or.inr (Or.inl h)))
  ·exact Or.inr (Or.inr (Or.inr (Or.inr (Or.inl h))))
  ·exact Or.inr (Or.inr (Or.inr (Or.inr (Or.inr (Or.inl h)))))
  ·exact Or.inr (Or.inr (Or.inr (Or.inr (Or.inr (Or.inr (Or.inl h))))))
  ·exact Or.inr (Or.inr (Or.inr (Or.inr (Or.inr (Or.inr (Or.inr (Or.inl ⟨x,hx,rfl⟩)))))))
  ·exact Or.inr (Or.inr (Or.inr (Or.inr (Or.inr (Or.inr (Or.inr (Or.inr ⟨x,hx,rfl⟩)))))))
 rcases(opT_same T c nb).blocks tb b hsub with h|rfl
 ·exact h3 b h
 ·exact hbs _ hnb
end
def hasB (T:Tab) (n:Int) (i:ID):Bool:=decide (n∈memH T.holds i)
def notHas (T:Tab) (n:Int) (i:ID):Bool:=!hasB T n i
theorem mget_unit (l:List Int) (n:Int):(mget (l.map fun n=>(n,())) n).isSome=decide (n∈l):=by
 induction l with
 | nil=>simp[mget]
 | cons x r ih=>
  simp only[List.map_cons,mget,List.mem_cons]
  by_cases h:x=n
  ·subst h;simp
  ·rw[if_neg h]
   have:¬n=x:=fun e=>h e.symm
   rw[ih];simp[this]
theorem run_hasSet (s:NSet) (n:Int) (W:World) (h:SetT W s):(Instr.lookup 127 (.map (some s.blk)) (.int .i64 n) true).run Tryz.prog W = .ok (.tuple #[.agg #[],.bool (decide (n∈s.mem))]) W:=by
 have h1:=MapT.lookup keInt Tryz.underlying127 (zeroUnit W) h n true
 rw[mget_unit] at h1
 refine h1.trans ?_
 cases mget (s.mem.map fun n=>(n,())) n <;> rfl
theorem run_hasNil (n:Int) (W:World):(Instr.lookup 127 (.map none) (.int .i64 n) true).run Tryz.prog W = .ok (.tuple #[.agg #[],.bool false]) W:=by kernel_rfl
section
variable {w : World}
set_option maxRecDepth 100000 in
theorem has_any (s:NSet) (h:SetT w s) (n:Int):Calls Tryz.prog 104 #[.map (some s.blk),.int .i64 n] w fun e w'=>e = .returned (.bool (decide (n∈s.mem)))∧w.grownBy w' none:=by
 have hl:=run_hasSet s n w h
 clear h
 generalize decide (n∈s.mem)=d at *
 go_enter Tryz.func104,Tryz.ntmps104
 go_wp2
 go_ret
 exact⟨rfl,World.grownBy_alloc _ _ _⟩
set_option maxRecDepth 100000 in
theorem has_nil (n:Int):Calls Tryz.prog 104 #[.map none,.int .i64 n] w fun e w'=>e = .returned (.bool false)∧w.grownBy w' none:=by
 have hl:=fun W=>run_hasNil n W
 go_enter Tryz.func104,Tryz.ntmps104
 go_wp2
 go_ret
 exact⟨rfl,World.grownBy_alloc _ _ _⟩
variable {tb : Nat} {T : Tab}
set_option maxHeartbeats 4000000 in
set_option maxRecDepth 100000 in
theorem mis1_any (h:TRep w tb T) (i:ID) (n:Int) (b1 b2:Nat) (h1:w.cell? ⟨b1,0,none⟩=some (.pointer (some ⟨tb,0,none⟩))) (h2:w.cell? ⟨b2,0,none⟩=some (.int .i64 n)) :
  Calls Tryz.prog 103 #[encID i,.pointer (some ⟨b1,0,none⟩),.pointer (some ⟨b2,0,none⟩)] w fun e w'=>e = .returned (.bool (hasB T n i))∧w.grownBy w' none:=by
 obtain⟨k,v⟩:=i
 have l1:=cell_lt h1
 have l2:=cell_lt h2
 have htb:=h.tlt
 simp only[encID]
 cases hr:mget T.holds ⟨k,v⟩ with
 | none=>
  have hl:=run_setsT T.hb T.holds k v none hr
  have HM:Hid (hasB T n ⟨k,v⟩=false):=(show _=_ from by unfold hasB memH;rw[hr];simp)
  have c7:=h.c7
  have hh:=h.holds
  simp only[Option.map_none] at hl
  have HN:Hid (∀W:World,Calls Tryz.prog 104 #[.map none,.int .i64 n] W fun e w'=>e = .returned (.bool false)∧W.grownBy w' none):=fun W=>has_nil n
  clear h
  go_enter Tryz.func103,Tryz.ntmps103
  go_wp2
  refine wp_region_quiet_ext (by kernel_rfl) (by kernel_rfl) ?_
  repeat (any_goals (first|go_big_quiet_step ((go_at_call 104;exact calls_ext (HN.out _)))|quiet_step ((go_at_call 104;exact calls_ext (HN.out _)))))
  refine wpQuiet_nil ?_
  intro _ hw'
  obtain⟨x,hw''⟩:=hw'
  subst hw''
  go_wp2
  go_ret
  exact⟨by rw[HM.out];rfl,by repeat (first|exact grown_refl _|exact World.grownBy_alloc _ _ _|refine grown_ext' ?_ _|refine grown_alloc ?_ _|refine grown_drew ?_)⟩
 | some s=>
  have hl:=run_setsT T.hb T.holds k v (some s) hr
  have HM:Hid (hasB T n ⟨k,v⟩=decide (n∈s.mem)):=(show _=_ from by unfold hasB memH;rw[hr];rfl)
  have c7:=h.c7
  have hh:=h.holds
  have hs:=h.hsets _ (mget_mem hr)
  simp only[Option.map_some] at hl
  have HN:Hid (∀W:World,w.grownBy W none→Calls Tryz.prog 104 #[.map (some s.blk),.int .i64 n] W fun e w'=>e = .returned (.bool (decide (n∈s.mem)))∧W.grownBy w' none):=fun W hg=>has_any s (MapT.kept hs hg (by simp)) n
  clear h hs
  generalize decide (n∈s.mem)=d at *
  go_enter Tryz.func103,Tryz.ntmps103
  go_wp2
  refine wp_region_quiet_ext (by kernel_rfl) (by kernel_rfl) ?_
  repeat (any_goals (first|go_big_quiet_step ((go_at_call 104;exact calls_ext (HN.out _ (by repeat (first|exact grown_refl _|exact World.grownBy_alloc _ _ _|refine grown_ext' ?_ _|refine grown_alloc ?_ _|refine grown_drew ?_)))))|quiet_step ((go_at_call 104;exact calls_ext (HN.out _ (by repeat (first|exact grown_refl _|exact World.grownBy_alloc _ _ _|refine grown_ext' ?_ _|refine grown_alloc ?_ _|refine grown_drew ?_)))))))
  refine wpQuiet_nil ?_
  intro _ hw'
  obtain⟨x,hw''⟩:=hw'
  subst hw''
  go_wp2
  go_ret
  exact⟨by rw[HM.out];rfl,by repeat (first|exact grown_refl _|exact World.grownBy_alloc _ _ _|refine grown_ext' ?_ _|refine grown_alloc ?_ _|refine grown_drew ?_)⟩
end
section
variable {K V : Type} [DecidableEq K]
theorem mget_put (m:List (K × V)) (k k':K) (v:V):mget (mput m k v) k'=if k'=k then some v else mget m k':=by
 split
 ·rename_i h;subst h;exact mget_mput_same m k' v
 ·rename_i h;exact mget_mput_ne m v h
theorem mget_filter {m:List (K × V)} (hn:(m.map (·.1)).Nodup) (f:K × V→Bool) (k:K):mget (m.filter f) k=(mget m k).bind fun v=>if f (k,v)=true then some v else none:=by
 induction m with
 | nil=>rfl
 | cons p r ih=>
  simp only[List.map_cons,List.nodup_cons] at hn
  obtain⟨a,v⟩:=p
  by_cases e:a=k
  ·subst e
   have hr:mget r a=none:=mget_none fun q hq e=>hn.1 (List.mem_map.2 ⟨q,hq,e⟩)
   have ih:=ih hn.2
   rw[hr] at ih
   simp only[List.filter_cons,mget,if_true,Option.bind_some]
   split
   ·rename_i h;simp[mget]
   ·rename_i h;rw[ih];rfl
  ·simp only[List.filter_cons,mget,if_neg e]
   split
   ·simp only[mget,if_neg e];exact ih hn.2
   ·exact ih hn.2
omit [DecidableEq K] in
theorem nodup_filter {m:List (K × V)} (hn:(m.map (·.1)).Nodup) (f:K × V→Bool):((m.filter f).map (·.1)).Nodup:=
 hn.sublist ((List.filter_sublist).map _)
theorem mget_some_iff {m:List (K × V)} {k:K}:(mget m k).isSome=true↔∃v,(k,v)∈m:=by
 constructor
 ·intro h
  obtain⟨v,hv⟩:=Option.isSome_iff_exists.1 h
  exact⟨v,mget_mem hv⟩
 ·rintro⟨v,hv⟩
  cases e:mget m k with
  | some _=>rfl
  | none=>exact absurd rfl (mget_none_iff.1 e _ hv)
end
structure Mems (n:Nat) (m:List (ID × NSet)):Prop where
 nodup:(m.map (·.1)).Nodup
 mem:∀p∈m,p.2.mem.Nodup∧∀x∈p.2.mem,0≤x∧x<n
section
variable {n : Nat} {m : List (ID × NSet)}
theorem Mems.filt (h:Mems n m) (f:ID × NSet→Bool):Mems n (m.filter f):=
 ⟨nodup_filter h.nodup f,fun p hp=>h.mem p (List.mem_filter.1 hp).1⟩
theorem Mems.dels (h:Mems n m) (a:Int):Mems n (sdelAll m a):=by
 refine⟨?_,?_⟩
 ·have:(sdelAll m a).map (·.1)=m.map (·.1):=by unfold sdelAll;rw[List.map_map];rfl
  rw[this];exact h.nodup
 ·intro p hp
  unfold sdelAll at hp
  obtain⟨q,hq,rfl⟩:=List.mem_map.1 hp
  have:=h.mem q hq
  exact⟨this.1.filter _,fun x hx=>this.2 x (List.mem_filter.1 hx).1⟩
theorem Mems.mods (h:Mems n m) (i:ID) (f:List Int→List Int) (hf:∀l:List Int,(l.Nodup∧∀x∈l,0≤x∧x<n)→((f l).Nodup∧∀x∈f l,0≤x∧x<n)):Mems n (smod m i f):=by
 refine⟨by rw[smod_keys];exact h.nodup,?_⟩
 intro p hp
 unfold smod at hp
 obtain⟨q,hq,rfl⟩:=List.mem_map.1 hp
 split
 ·exact hf _ (h.mem q hq)
 ·exact h.mem q hq
theorem sput_ok {n:Nat} (a:Int) (ha:0≤a∧a<n) (l:List Int) (h:l.Nodup∧∀x∈l,0≤x∧x<n):(sput l a).Nodup∧∀x∈sput l a,0≤x∧x<n:=by
 unfold sput
 split
 ·exact h
 ·rename_i hn
  refine⟨List.nodup_append.2 ⟨h.1,by simp,fun x hx y hy e=>?_⟩,fun x hx=>?_⟩
  ·simp only[List.mem_singleton] at hy;subst hy;subst e;exact hn hx
  ·rcases List.mem_append.1 hx with hx|hx
   ·exact h.2 x hx
   ·simp only[List.mem_singleton] at hx;subst hx;exact ha
theorem sdel_ok {n:Nat} (a:Int) (l:List Int) (h:l.Nodup∧∀x∈l,0≤x∧x<n):(sdel l a).Nodup∧∀x∈sdel l a,0≤x∧x<n:=
 ⟨h.1.filter _,fun x hx=>h.2 x (List.mem_filter.1 hx).1⟩
theorem Mems.adds (h:Mems n m) (i:ID) (a:Int) (ha:0≤a∧a<n):Mems n (sadd m i a 0):=by
 unfold sadd
 split
 ·exact h.mods i _ (sput_ok a ha)
 ·rename_i hs
  have hm:mget m i=none:=by cases e:mget m i with
   | none=>rfl
   | some _=>rw[e] at hs;exact absurd rfl hs
  have hne:=mget_none_iff.1 hm
  refine⟨?_,?_⟩
  ·rw[List.map_append]
   refine List.nodup_append.2 ⟨h.nodup,by simp,fun x hx y hy e=>?_⟩
   simp only[List.map_cons,List.map_nil,List.mem_singleton] at hy
   obtain⟨q,hq,rfl⟩:=List.mem_map.1 hx
   exact hne q hq (e.trans hy)
  ·intro p hp
   rcases List.mem_append.1 hp with hp|hp
   ·exact h.mem p hp
   ·simp only[List.mem_singleton] at hp;subst hp
    exact⟨by simp,fun x hx=>by simp only[List.mem_singleton] at hx;subst hx;exact ha⟩
theorem nodup_range_len:∀(n:Nat) (l:List Int),l.Nodup→(∀x∈l,0≤x∧x<n)→l.length≤n:=by
 intro n
 induction n with
 | zero=>
  intro l _ h
  cases l with
  | nil=>simp
  | cons a r=>have:=h a (by simp);omega
 | succ n ih=>
  intro l hn h
  have h2:=ih (l.erase (n:Int)) (hn.erase _) (fun x hx=>by
   rw[hn.mem_erase_iff] at hx
   have h3:=h x hx.2
   have h4:=hx.1
   omega)
  rw[List.length_erase] at h2
  split at h2 <;> omega
theorem Mems.len (h:Mems n m) (i:ID):(memH m i).length≤n∧∀x∈memH m i,0≤x∧x<n:=by
 unfold memH
 cases e:mget m i with
 | none=>exact⟨by simp,by simp⟩
 | some s=>
  have:=h.mem _ (mget_mem e)
  exact⟨nodup_range_len n _ this.1 this.2,this.2⟩
theorem memH_filter_none (h:Mems n m) (f:ID × NSet→Bool) (i:ID) (hf:∀s,f (i,s)=false):memH (m.filter f) i = []:=by
 unfold memH
 rw[mget_filter h.nodup]
 cases e:mget m i with
 | none=>rfl
 | some s=>simp only[Option.bind_some];rw[if_neg (by rw[hf s];decide)];rfl
end
structure Inv (n k:Nat) (T:Tab):Prop where
 ln:T.lives.length=n
 w:T.w=k
 lo:∀x∈T.lives,0≤x∧x≤T.offers
 o0:0≤T.offers
 nx:1≤T.next
 pnd:(T.pending.map (·.1)).Nodup
 pv:∀p∈T.pending,1≤p.1.ver∧p.1.ver<T.next
 pu:∀p∈T.pending,∀q∈T.pending,p.1.ver=q.1.ver→p.1=q.1
 vv:∀k,(lookV T k).ver<T.next∧0≤(lookV T k).ver
 pl:∀p∈T.pending,(lookV T p.1.key).ver≠p.1.ver
 pc:∀p∈T.pending,callV T p.2.client=⟨p.2.req,p.1.ver,false,0⟩
 hm:Mems n T.holds
 rm:Mems n T.refuses
section
variable {n k : Nat} {T U : Tab}
theorem inv_frame (h:Inv n k T) (hw:U.w=T.w) (hc:U.calls=T.calls) (hv:U.values=T.values) (hp:U.pending=T.pending) (hn:U.next=T.next) (hl:U.lives.length=n) (hlo:∀x∈U.lives,0≤x∧x≤U.offers) (ho:0≤U.offers) (hm:Mems n U.holds) (rm:Mems n U.refuses):Inv n k U:=by
 refine⟨hl,hw.trans h.w,hlo,ho,?_,?_,?_,?_,?_,?_,?_,hm,rm⟩
 ·rw[hn];exact h.nx
 ·rw[hp];exact h.pnd
 ·rw[hp,hn];exact h.pv
 ·rw[hp];exact h.pu
 ·intro k;unfold lookV;rw[hv,hn];exact h.vv k
 ·rw[hp];intro p hp';unfold lookV;rw[hv];exact h.pl p hp'
 ·rw[hp];intro p hp';unfold callV;rw[hc];exact h.pc p hp'
theorem Inv.lifeV_le (h:Inv n k T) (a:Int):0≤lifeV T a∧lifeV T a≤T.offers:=by
 unfold lifeV
 split
 ·exact⟨Int.le_refl _,h.o0⟩
 ·rename_i hr
  have hlt:a.toNat<T.lives.length:=by omega
  have:T.lives.getD a.toNat 0∈T.lives:=by
   simp only[List.getD_eq_getElem?_getD,List.getElem?_eq_getElem hlt,Option.getD_some]
   exact List.getElem_mem hlt
  exact h.lo _ this
theorem done_pending {i:ID} {p:Pend} {code:Int} (q:ID × Pend) (hq:q∈(doneT T i p code).pending):q∈T.pending∧q.1≠i:=by
 have:=List.mem_filter.1 hq
 exact⟨this.1,by simpa using this.2⟩
theorem done_calls (h:Inv n k T) {i:ID} {p:Pend} (hi:mget T.pending i=some p) (code:Int) (m:Int):callV (doneT T i p code) m=if m=p.client then ⟨p.req,i.ver,true,code⟩ else callV T m:=by
 have hc:=h.pc _ (mget_mem hi)
 simp only at hc
 show(mget (doneCalls T i p code) m).getD _=_
 unfold doneCalls
 rw[hc]
 simp only[and_self,if_true]
 rw[mget_put]
 split <;> rfl
theorem inv_done (h:Inv n k T) {i:ID} {p:Pend} (hi:mget T.pending i=some p) (code:Int):Inv n k (doneT T i p code):=by
 have hm:=mget_mem hi
 refine⟨h.ln,h.w,h.lo,h.o0,h.nx,nodup_filter h.pnd _,?_,?_,h.vv,?_,?_,h.hm,h.rm⟩
 ·intro q hq;exact h.pv q (done_pending q hq).1
 ·intro q hq r hr;exact h.pu q (done_pending q hq).1 r (done_pending r hr).1
 ·intro q hq;exact h.pl q (done_pending q hq).1
 ·intro q hq
  obtain⟨h1,h2⟩:=done_pending q hq
  rw[done_calls h hi code]
  have h3:=h.pc q h1
  split
  ·rename_i e
   have h4:=h.pc _ hm
   simp only at h4
   rw[e,h4] at h3
   have:i.ver=q.1.ver:=by injection h3
   exact absurd (h.pu q h1 _ hm this.symm) h2
  ·exact h3
theorem put_lookV (T:Tab) (s:ByteArray) (v:Val) (s':ByteArray):lookV { T with values:=mput T.values s v } s'=if s'=s then v else lookV T s':=by
 show(mget (mput T.values s v) s').getD _=_
 rw[mget_put]
 split <;> rfl
theorem inv_put (h:Inv n k T) (s:ByteArray) (v:Val) (hv:v.ver<T.next∧0≤v.ver) (hp:∀p∈T.pending,p.1.key=s→p.1.ver≠v.ver):Inv n k { T with values:=mput T.values s v }:=by
 refine⟨h.ln,h.w,h.lo,h.o0,h.nx,h.pnd,h.pv,h.pu,?_,?_,h.pc,h.hm,h.rm⟩
 ·intro s'
  rw[put_lookV]
  split
  ·exact hv
  ·exact h.vv s'
 ·intro p hp'
  rw[put_lookV]
  split
  ·rename_i e;exact fun e2=>hp p hp' e e2.symm
  ·exact h.pl p hp'
theorem drop_mem {c:Int} {q:ID × Pend} (h:q∈dropC T c):q∈T.pending∧q.2.client≠c:=by
 have:=List.mem_filter.1 h
 exact⟨this.1,by simpa using this.2⟩
theorem inv_began (h:Inv n k T) (c:Cmd):Inv n k (beganT T c):=by
 unfold beganT
 split
 ·have hne:∀p∈dropC T c.client,p.1≠(⟨c.key,T.next⟩:ID):=fun p hp e=>by
   have:=(h.pv p (drop_mem hp).1).2
   rw[e] at this;simp at this
  rw[mput_new hne]
  have hmem:∀q,q∈dropC T c.client ++ [((⟨c.key,T.next⟩:ID),(⟨c.client,c.req⟩:Pend))]→(q∈T.pending∧q.2.client≠c.client)∨q=(⟨c.key,T.next⟩,⟨c.client,c.req⟩):=fun q hq=>by
   rcases List.mem_append.1 hq with hq|hq
   ·exact Or.inl (drop_mem hq)
   ·exact Or.inr (by simpa using hq)
  refine⟨h.ln,h.w,h.lo,h.o0,by show 1≤T.next+1;have:=h.nx;omega,?_,?_,?_,?_,?_,?_,h.hm,h.rm⟩
  ·show((dropC T c.client ++ [((⟨c.key,T.next⟩:ID),(⟨c.client,c.req⟩:Pend))]).map (·.1)).Nodup
   rw[List.map_append]
   refine List.nodup_append.2 ⟨nodup_filter h.pnd _,by simp,fun x hx y hy e=>?_⟩
   simp only[List.map_cons,List.map_nil,List.mem_singleton] at hy
   obtain⟨q,hq,rfl⟩:=List.mem_map.1 hx
   exact hne q hq (e.trans hy)
  ·intro q hq
   show 1≤q.1.ver∧q.1.ver<T.next+1
   rcases hmem q hq with ⟨h1,_⟩|rfl
   ·have:=h.pv q h1;omega
   ·have:=h.nx;simp;omega
  ·intro q hq r hr e
   rcases hmem q hq with ⟨h1,_⟩|rfl <;> rcases hmem r hr with ⟨h2,_⟩|rfl
   ·exact h.pu q h1 r h2 e
   ·have:=h.pv q h1;simp at e;omega
   ·have:=h.pv r h2;simp at e;omega
   ·rfl
  ·intro s
   have:=h.vv s
   exact⟨by show(lookV T s).ver<T.next+1;omega,this.2⟩
  ·intro q hq
   show(lookV T q.1.key).ver≠q.1.ver
   rcases hmem q hq with ⟨h1,_⟩|rfl
   ·exact h.pl q h1
   ·have:=(h.vv c.key).1;simp;omega
  ·intro q hq
   show(mget (mput T.calls c.client _) q.2.client).getD _=_
   rw[mget_put]
   rcases hmem q hq with ⟨h1,h2⟩|rfl
   ·rw[if_neg h2];exact h.pc q h1
   ·simp
 ·exact h
theorem inv_drop (h:Inv n k T) (c:Int) (m:List (Int × CallT)) (hm:∀a,a≠c→mget m a=mget T.calls a):Inv n k { T with pending:=dropC T c,calls:=m }:=by
 refine⟨h.ln,h.w,h.lo,h.o0,h.nx,nodup_filter h.pnd _,?_,?_,h.vv,?_,?_,h.hm,h.rm⟩
 ·intro q hq;exact h.pv q (drop_mem hq).1
 ·intro q hq r hr;exact h.pu q (drop_mem hq).1 r (drop_mem hr).1
 ·intro q hq;exact h.pl q (drop_mem hq).1
 ·intro q hq
  show(mget m q.2.client).getD _=_
  rw[hm _ (drop_mem hq).2]
  exact h.pc q (drop_mem hq).1
theorem inv_next (h:Inv n k T) (x:Int) (hx:T.next≤x):Inv n k { T with next:=x }:=by
 refine⟨h.ln,h.w,h.lo,h.o0,by show 1≤x;have:=h.nx;omega,h.pnd,?_,h.pu,?_,h.pl,h.pc,h.hm,h.rm⟩
 ·intro p hp;have:=h.pv p hp;exact⟨this.1,by show p.1.ver<x;omega⟩
 ·intro s;have:=h.vv s;exact⟨by show(lookV T s).ver<x;omega,this.2⟩
theorem inv_removed (h:Inv n k T) (c:Cmd):Inv n k (removedT T c):=by
 unfold removedT
 split
 ·have h1:=inv_drop h c.client (mput T.calls c.client ⟨c.req,0,true,0⟩) (fun a ha=>mget_mput_ne _ _ ha)
  have h2:=inv_next h1 (T.next+1) (by show T.next≤T.next+1;omega)
  have h3:=inv_put h2 c.key ⟨T.next,true⟩ ⟨by show T.next<T.next+1;omega,by have:=h.nx;show 0≤T.next;omega⟩ (fun p hp _=>by
   have:=(h1.pv p hp).2
   have e:({ T with pending:=dropC T c.client,calls:=mput T.calls c.client ⟨c.req,0,true,0⟩ }:Tab).next=T.next:=rfl
   rw[e] at this
   show p.1.ver≠T.next;omega)
  exact h3
 ·exact h
theorem inv_rejected (h:Inv n k T) (c:Cmd):Inv n k (rejectedT T c):=by
 unfold rejectedT
 split
 ·exact inv_drop h c.client _ (fun a ha=>mget_mput_ne _ _ ha)
 ·exact h
theorem inv_life (h:Inv n k T) (c:Cmd) (hn:0≤c.node):Inv n k (lifeT T c):=by
 unfold lifeT
 split
 ·rename_i hB
  unfold lifeB at hB
  simp only[Bool.not_eq_true',Bool.or_eq_false_iff,decide_eq_false_iff_not] at hB
  have h0:=(h.lifeV_le c.node).1
  refine inv_frame (U:=lifeStep T c 2) h rfl rfl rfl rfl rfl (by show(T.lives.set _ _).length=n;rw[List.length_set];exact h.ln) ?_ h.o0 (h.hm.dels _) (h.rm.dels _)
  intro x hx
  rcases List.mem_or_eq_of_mem_set hx with hx|rfl
  ·exact h.lo x hx
  ·exact⟨by omega,by show c.inc≤T.offers;omega⟩
 ·exact h
theorem inv_held (h:Inv n k T) (i:ID) (a:Int) (ha:0≤a∧a<n):Inv n k (heldT T i a 0):=
 inv_frame (U:=heldT T i a 0) h rfl rfl rfl rfl rfl h.ln h.lo h.o0 (h.hm.adds i a ha) (h.rm.mods i _ (sdel_ok a))
theorem inv_refused (h:Inv n k T) (i:ID) (a:Int) (ha:0≤a∧a<n):Inv n k (refusedT T i a 0):=
 inv_frame (U:=refusedT T i a 0) h rfl rfl rfl rfl rfl h.ln h.lo h.o0 (h.hm.mods i _ (sdel_ok a)) (h.rm.adds i a ha)
theorem inv_ack (h:Inv n k T) (c:Cmd) (ha:0≤c.node∧c.node<n):Inv n k (ackT T c 0):=by
 unfold ackT
 split
 ·have h1:=inv_held h ⟨c.key,c.ver⟩ c.node ha
  generalize heldT T ⟨c.key,c.ver⟩ c.node 0=S at *
  unfold ackRest
  split
  ·exact h1
  ·rename_i p hp
   have h2:=inv_done h1 hp 0
   split
   ·exact h1
   ·split
    ·refine inv_put h2 c.key ⟨c.ver,false⟩ ?_ ?_
     ·have:=h1.pv _ (mget_mem hp)
      exact⟨this.2,by simp only at this ⊢;omega⟩
     ·intro q hq e e2
      obtain⟨h3,h4⟩:=done_pending q hq
      apply h4
      obtain⟨⟨qk,qv⟩,qp⟩:=q
      simp only at e e2 ⊢
      rw[e,e2]
    ·exact h2
 ·exact h
theorem inv_refuse (h:Inv n k T) (c:Cmd) (ha:0≤c.node∧c.node<n):Inv n k (refuseT T c 0):=by
 unfold refuseT
 split
 ·have h1:=inv_refused h ⟨c.key,c.ver⟩ c.node ha
  generalize refusedT T ⟨c.key,c.ver⟩ c.node 0=S at *
  unfold refRest
  split
  ·exact h1
  ·rename_i p hp
   split
   ·exact inv_done h1 hp 181
   ·exact h1
 ·exact h
theorem inv_op (h:Inv n k T) (c:Cmd) (ha:0≤c.node∧c.node<n):Inv n k (opT T c 0):=by
 unfold opT
 repeat' split
 ·exact inv_frame (U:={ T with offers:=T.offers+1 }) h rfl rfl rfl rfl rfl h.ln (fun x hx=>by have:=h.lo x hx;exact⟨this.1,by show x≤T.offers+1;omega⟩) (by show 0≤T.offers+1;have:=h.o0;omega) h.hm h.rm
 ·exact inv_life h c ha.1
 ·exact inv_began h c
 ·exact inv_ack h c ha
 ·exact inv_refuse h c ha
 ·exact inv_removed h c
 ·exact inv_rejected h c
theorem inv_clean (h:Inv n k T):Inv n k (cleanT T):=inv_frame (U:=cleanT T) h rfl rfl rfl rfl rfl h.ln h.lo h.o0 (h.hm.filt _) (h.rm.filt _)
theorem inv_step (h:Inv n k T) (c:Cmd) (ha:0≤c.node∧c.node<n):Inv n k (stepT T c):=inv_clean (inv_op h c ha)
theorem inv_new (N:Nat) (w:Int) (k:Nat) (hk:clampW N w=k):Inv N k (newT N w 0).norm:=by
 refine⟨by simp[newT,Tab.norm],hk,?_,Int.le_refl _,Int.le_refl _,?_,?_,?_,?_,?_,?_,⟨?_,?_⟩,⟨?_,?_⟩⟩ <;> simp[newT,Tab.norm,nsets,lookV,mget]
end
end Go.Proofs.YtjfelfjobeeenaaGreat
