/- TableBytes, plain: what is kept of ranges, and of no empty set; two tables with the same lookups. Conditions: none. fields.Writer's Raw and the table's text: the walks. Conditions: a writer that lies in memory, not too many bytes. the table's text. A command's bytes (encB); table.Put's writer as a running state. Conditions: fields in their ranges. starfishref25.May: the walk. Conditions: none. play, TablePlays: the walks. Conditions: both tables lie in memory, apart, and go together. TablePlays: the walk: it answers true. Conditions: a row of commands in memory. The plain law of DeficitEnds: an Ack by a node that lacks a current version takes just that one task away. Conditions: a table that commands have made. -/
import Derived.Test.YtjfelfjobeeenaaGreatF35
import Derived.Test.YtjfelfjobeeenaaGreatF15
import Derived.Lib.ConvBytes
import Derived.Test.YtjfelfjobeeenaaGreatF2
import Derived.Test.YtjfelfjobeeenaaGreatF22
import Derived.Test.YtjfelfjobeeenaaGreatF29
set_option linter.unusedSimpArgs false
set_option linter.unusedVariables false
namespace Go.Proofs.YtjfelfjobeeenaaGreat
open Go.RowKit Go.Sf Go.Shelf
def I64 (x:Int):Prop:=-9223372036854775808≤x∧x<9223372036854775808
structure CallOk (p:Int × CallT):Prop where
 c0:0≤p.1
 c1:p.1≤65535
 r:I64 p.2.req
 v:I64 p.2.ver
 e0:0≤p.2.code
 e1:p.2.code≤65535
structure PendOk (p:ID × Pend):Prop where
 k:p.1.key.size≤64
 c0:0≤p.2.client
 c1:p.2.client≤65535
 r:I64 p.2.req
structure Rng (T:Tab):Prop where
 c:∀p∈T.calls,CallOk p
 v:∀p∈T.values,1≤p.2.ver∧p.1.size≤64
 p:∀p∈T.pending,PendOk p
 cn:(T.calls.map (·.1)).Nodup
 vn:(T.values.map (·.1)).Nodup
theorem mem_put {K V:Type} [DecidableEq K] {M:List (K × V)} {i:K} {s:V} {x:K × V} (h:x∈mput M i s):x∈M∨x=(i,s):=by
 induction M with
 | nil=>simp[mput] at h;exact Or.inr h
 | cons p r ih=>
  rw[mput] at h
  by_cases e:p.1=i
  ·rw[if_pos e] at h
   rcases List.mem_cons.1 h with h|h
   ·exact Or.inr h
   ·exact Or.inl (List.mem_cons_of_mem _ h)
  ·rw[if_neg e] at h
   rcases List.mem_cons.1 h with h|h
   ·exact Or.inl (h ▸ List.mem_cons_self)
   ·rcases ih h with h|h
    ·exact Or.inl (List.mem_cons_of_mem _ h)
    ·exact Or.inr h
section
variable {T U : Tab} {c : Cmd}
theorem rng_new (N:Nat) (w:Int):Rng (newT N w 0).norm:=⟨fun p hp=>by simp[newT,Tab.norm] at hp,fun p hp=>by simp[newT,Tab.norm] at hp,fun p hp=>by simp[newT,Tab.norm] at hp,by simp[newT,Tab.norm],by simp[newT,Tab.norm]⟩
theorem Rng.same (h:Rng T) (hc:U.calls=T.calls) (hv:U.values=T.values) (hp:U.pending=T.pending):Rng U:=⟨by rw[hc];exact h.c,by rw[hv];exact h.v,by rw[hp];exact h.p,by rw[hc];exact h.cn,by rw[hv];exact h.vn⟩
theorem Rng.less (h:Rng T) (hc:U.calls=T.calls) (hv:U.values=T.values) (hp:∀p∈U.pending,p∈T.pending):Rng U:=⟨by rw[hc];exact h.c,by rw[hv];exact h.v,fun p hq=>h.p p (hp p hq),by rw[hc];exact h.cn,by rw[hv];exact h.vn⟩
theorem Rng.call (h:Rng T) {m:Int} {x:CallT} (hx:CallOk (m,x)):Rng { T with calls:=mput T.calls m x }:=
 ⟨fun p hp=>by rcases mem_put hp with hp|rfl;exact h.c p hp;exact hx,h.v,h.p,mput_nodup h.cn _ _,h.vn⟩
theorem Rng.val (h:Rng T) {s:ByteArray} {x:Val} (hx:1≤x.ver∧s.size≤64):Rng { T with values:=mput T.values s x }:=
 ⟨h.c,fun p hp=>by rcases mem_put hp with hp|rfl;exact h.v p hp;exact hx,h.p,h.cn,mput_nodup h.vn _ _⟩
theorem Rng.pend (h:Rng T) {i:ID} {x:Pend} (hx:PendOk (i,x)):Rng { T with pending:=mput T.pending i x }:=
 ⟨h.c,h.v,fun p hp=>by rcases mem_put hp with hp|rfl;exact h.p p hp;exact hx,h.cn,h.vn⟩
theorem Rng.callV (h:Rng T) (m:Int):I64 (callV T m).req∧I64 (callV T m).ver:=by
 unfold Go.Proofs.YtjfelfjobeeenaaGreat.callV
 cases e:mget T.calls m with
 | none=>simp[I64]
 | some x=>have:=h.c _ (mget_mem e);exact⟨this.r,this.v⟩
theorem Rng.done (h:Rng T) {i:ID} {p:Pend} (hp:PendOk (i,p)) {code:Int} (h0:0≤code) (h1:code≤65535):Rng (doneT T i p code):=by
 have hb:Rng { T with pending:=mdel T.pending i }:=h.less rfl rfl fun q hq=>(List.mem_filter.1 hq).1
 have hv:=h.callV p.client
 unfold doneT doneCalls
 split
 ·exact Rng.call (T:={ T with pending:=mdel T.pending i }) hb ⟨hp.c0,hp.c1,hv.1,hv.2,h0,h1⟩
 ·exact hb
theorem rng_act {n k:Nat} (hI:Inv n k T) (h:Rng T) (hx:T.next<1000000):Rng (actT T c):=by
 have hn1:=hI.nx
 unfold actT
 split
 case isFalse=>exact h
 case isTrue hm=>
  have hm1:=hm.1
  unfold mayB longB smallB at hm1
  simp only[Bool.and_eq_true,decide_eq_true_eq] at hm1
  obtain⟨⟨⟨⟨⟨k1,k7⟩,hb⟩,hl⟩,hs⟩,hk⟩:=hm1
  have hreq:I64 c.req:=⟨by omega,by omega⟩
  have hnx:I64 T.next:=⟨by omega,by omega⟩
  have i0:I64 0:=⟨by decide,by decide⟩
  have z0:(0:Int)≤0:=by decide
  have z1:(0:Int)≤65535:=by decide
  have hdrop:Rng { T with pending:=dropC T c.client }:=h.less rfl rfl fun q hq=>(List.mem_filter.1 hq).1
  unfold stepT doT
  refine Rng.same (T:=opT T c 0) ?_ rfl rfl rfl
  unfold opT
  split
  ·exact h.same rfl rfl rfl
  split
  ·unfold lifeT
   split
   ·exact h.same rfl rfl rfl
   ·exact h
  split
  ·unfold beganT
   split
   ·have h1:=hdrop.pend (i:=⟨c.key,T.next⟩) (x:=⟨c.client,c.req⟩) ⟨hk,hs.2.2.1,hs.2.2.2.1,hreq⟩
    exact(h1.call (m:=c.client) (x:=⟨c.req,T.next,false,0⟩) ⟨hs.2.2.1,hs.2.2.2.1,hreq,hnx,z0,z1⟩).same rfl rfl rfl
   ·exact h
  split
  ·unfold ackT
   split
   ·have h1:Rng (heldT T ⟨c.key,c.ver⟩ c.node 0):=h.same rfl rfl rfl
    unfold ackRest
    cases e:mget (heldT T ⟨c.key,c.ver⟩ c.node 0).pending ⟨c.key,c.ver⟩ with
    | none=>exact h1
    | some p=>
     have hp:=h1.p _ (mget_mem e)
     have h2:=h1.done hp (code:=0) (by decide) (by decide)
     simp only[]
     split
     ·exact h1
     split
     ·rename_i hlt
      refine h2.val ⟨?_,hk⟩
      exact(hI.pv _ (mget_mem (m:=T.pending) e)).1
     ·exact h2
   ·exact h
  split
  ·unfold refuseT
   split
   ·have h1:Rng (refusedT T ⟨c.key,c.ver⟩ c.node 0):=h.same rfl rfl rfl
    unfold refRest
    cases e:mget (refusedT T ⟨c.key,c.ver⟩ c.node 0).pending ⟨c.key,c.ver⟩ with
    | none=>exact h1
    | some p=>
     have hp:=h1.p _ (mget_mem e)
     simp only[]
     split
     ·exact h1.done hp (by decide) (by decide)
     ·exact h1
   ·exact h
  split
  ·unfold removedT
   split
   ·have h1:=hdrop.val (s:=c.key) (x:=⟨T.next,true⟩) ⟨hn1,hk⟩
    exact(h1.call (m:=c.client) (x:=⟨c.req,0,true,0⟩) ⟨hs.2.2.1,hs.2.2.2.1,hreq,i0,z0,z1⟩).same rfl rfl rfl
   ·exact h
  ·unfold rejectedT
   split
   ·exact(hdrop.call (m:=c.client) (x:=⟨c.req,0,true,c.code⟩) ⟨hs.2.2.1,hs.2.2.2.1,hreq,i0,hs.2.2.2.2.1,hs.2.2.2.2.2⟩).same rfl rfl rfl
   ·exact h
end
open Go.RowKit Go.Sf
section
variable {W w : World} {wb : Nat} {v : Value} {l : List Int}
end
theorem beqE (k:ByteArray):k.toList.isEmpty=decide (k=⟨#[]⟩):=by
 rw[Bool.eq_iff_iff,decide_eq_true_iff]
 obtain⟨⟨x⟩⟩:=k
 rw[ByteArray.toList_eq]
 simp
set_option maxHeartbeats 2000000 in
set_option maxRecDepth 100000 in
theorem rbare_1 (node client inc req ver code:Int) (key:ByteArray) (W:World) :
  Calls Tryz.prog 46 #[encCmd ⟨1,node,client,inc,req,ver,key,code⟩] W fun e w'=>e = .returned (.bool (decide ((⟨1,node,client,inc,req,ver,key,code⟩:Cmd)=bareC ⟨1,node,client,inc,req,ver,key,code⟩)))∧W.grownBy w' none:=by
 have hb:=beqE key
 obtain⟨B,hB⟩:∃B,B=decide ((⟨1,node,client,inc,req,ver,key,code⟩:Cmd)=bareC ⟨1,node,client,inc,req,ver,key,code⟩):=⟨_,rfl⟩
 rw[←hB]
 have HB:=Lib.hid hB
 clear hB
 simp only[encCmd]
 go_enter Tryz.func46,Tryz.ntmps46
 go_wp2
 all_goals
  go_ret
  refine⟨ret_bool ?_,World.grownBy_alloc W _ none⟩
  rw[HB.out]
  simp[bareC, *] <;> rfl
set_option maxHeartbeats 2000000 in
set_option maxRecDepth 100000 in
theorem rbare_2 (node client inc req ver code:Int) (key:ByteArray) (W:World) :
  Calls Tryz.prog 46 #[encCmd ⟨2,node,client,inc,req,ver,key,code⟩] W fun e w'=>e = .returned (.bool (decide ((⟨2,node,client,inc,req,ver,key,code⟩:Cmd)=bareC ⟨2,node,client,inc,req,ver,key,code⟩)))∧W.grownBy w' none:=by
 have hb:=beqE key
 obtain⟨B,hB⟩:∃B,B=decide ((⟨2,node,client,inc,req,ver,key,code⟩:Cmd)=bareC ⟨2,node,client,inc,req,ver,key,code⟩):=⟨_,rfl⟩
 rw[←hB]
 have HB:=Lib.hid hB
 clear hB
 simp only[encCmd]
 go_enter Tryz.func46,Tryz.ntmps46
 go_wp2
 all_goals
  go_ret
  refine⟨ret_bool ?_,World.grownBy_alloc W _ none⟩
  rw[HB.out]
  simp[bareC, *] <;> rfl
set_option maxHeartbeats 2000000 in
set_option maxRecDepth 100000 in
theorem rbare_3 (node client inc req ver code:Int) (key:ByteArray) (W:World) :
  Calls Tryz.prog 46 #[encCmd ⟨3,node,client,inc,req,ver,key,code⟩] W fun e w'=>e = .returned (.bool (decide ((⟨3,node,client,inc,req,ver,key,code⟩:Cmd)=bareC ⟨3,node,client,inc,req,ver,key,code⟩)))∧W.grownBy w' none:=by
 have hb:=beqE key
 obtain⟨B,hB⟩:∃B,B=decide ((⟨3,node,client,inc,req,ver,key,code⟩:Cmd)=bareC ⟨3,node,client,inc,req,ver,key,code⟩):=⟨_,rfl⟩
 rw[←hB]
 have HB:=Lib.hid hB
 clear hB
 simp only[encCmd]
 go_enter Tryz.func46,Tryz.ntmps46
 go_wp2
 all_goals
  go_ret
  refine⟨ret_bool ?_,World.grownBy_alloc W _ none⟩
  rw[HB.out]
  simp[bareC, *] <;> rfl
set_option maxHeartbeats 2000000 in
set_option maxRecDepth 100000 in
theorem rbare_4 (node client inc req ver code:Int) (key:ByteArray) (W:World) :
  Calls Tryz.prog 46 #[encCmd ⟨4,node,client,inc,req,ver,key,code⟩] W fun e w'=>e = .returned (.bool (decide ((⟨4,node,client,inc,req,ver,key,code⟩:Cmd)=bareC ⟨4,node,client,inc,req,ver,key,code⟩)))∧W.grownBy w' none:=by
 have hb:=beqE key
 obtain⟨B,hB⟩:∃B,B=decide ((⟨4,node,client,inc,req,ver,key,code⟩:Cmd)=bareC ⟨4,node,client,inc,req,ver,key,code⟩):=⟨_,rfl⟩
 rw[←hB]
 have HB:=Lib.hid hB
 clear hB
 simp only[encCmd]
 go_enter Tryz.func46,Tryz.ntmps46
 go_wp2
 all_goals
  go_ret
  refine⟨ret_bool ?_,World.grownBy_alloc W _ none⟩
  rw[HB.out]
  simp[bareC, *] <;> rfl
set_option maxHeartbeats 2000000 in
set_option maxRecDepth 100000 in
theorem rbare_5 (node client inc req ver code:Int) (key:ByteArray) (W:World) :
  Calls Tryz.prog 46 #[encCmd ⟨5,node,client,inc,req,ver,key,code⟩] W fun e w'=>e = .returned (.bool (decide ((⟨5,node,client,inc,req,ver,key,code⟩:Cmd)=bareC ⟨5,node,client,inc,req,ver,key,code⟩)))∧W.grownBy w' none:=by
 have hb:=beqE key
 obtain⟨B,hB⟩:∃B,B=decide ((⟨5,node,client,inc,req,ver,key,code⟩:Cmd)=bareC ⟨5,node,client,inc,req,ver,key,code⟩):=⟨_,rfl⟩
 rw[←hB]
 have HB:=Lib.hid hB
 clear hB
 simp only[encCmd]
 go_enter Tryz.func46,Tryz.ntmps46
 go_wp2
 all_goals
  go_ret
  refine⟨ret_bool ?_,World.grownBy_alloc W _ none⟩
  rw[HB.out]
  simp[bareC, *] <;> rfl
set_option maxHeartbeats 2000000 in
set_option maxRecDepth 100000 in
theorem rbare_6 (node client inc req ver code:Int) (key:ByteArray) (W:World) :
  Calls Tryz.prog 46 #[encCmd ⟨6,node,client,inc,req,ver,key,code⟩] W fun e w'=>e = .returned (.bool (decide ((⟨6,node,client,inc,req,ver,key,code⟩:Cmd)=bareC ⟨6,node,client,inc,req,ver,key,code⟩)))∧W.grownBy w' none:=by
 have hb:=beqE key
 obtain⟨B,hB⟩:∃B,B=decide ((⟨6,node,client,inc,req,ver,key,code⟩:Cmd)=bareC ⟨6,node,client,inc,req,ver,key,code⟩):=⟨_,rfl⟩
 rw[←hB]
 have HB:=Lib.hid hB
 clear hB
 simp only[encCmd]
 go_enter Tryz.func46,Tryz.ntmps46
 go_wp2
 all_goals
  go_ret
  refine⟨ret_bool ?_,World.grownBy_alloc W _ none⟩
  rw[HB.out]
  simp[bareC, *] <;> rfl
set_option maxHeartbeats 2000000 in
set_option maxRecDepth 100000 in
theorem rbare_7 (node client inc req ver code:Int) (key:ByteArray) (W:World) :
  Calls Tryz.prog 46 #[encCmd ⟨7,node,client,inc,req,ver,key,code⟩] W fun e w'=>e = .returned (.bool (decide ((⟨7,node,client,inc,req,ver,key,code⟩:Cmd)=bareC ⟨7,node,client,inc,req,ver,key,code⟩)))∧W.grownBy w' none:=by
 have hb:=beqE key
 obtain⟨B,hB⟩:∃B,B=decide ((⟨7,node,client,inc,req,ver,key,code⟩:Cmd)=bareC ⟨7,node,client,inc,req,ver,key,code⟩):=⟨_,rfl⟩
 rw[←hB]
 have HB:=Lib.hid hB
 clear hB
 simp only[encCmd]
 go_enter Tryz.func46,Tryz.ntmps46
 go_wp2
 all_goals
  go_ret
  refine⟨ret_bool ?_,World.grownBy_alloc W _ none⟩
  rw[HB.out]
  simp[bareC, *] <;> rfl
theorem rbare_any (c:Cmd) (h1:1≤c.kind) (h7:c.kind≤7) (W:World):Calls Tryz.prog 46 #[encCmd c] W fun e w'=>e = .returned (.bool (decide (c=bareC c)))∧W.grownBy w' none:=by
 obtain⟨kind,node,client,inc,req,ver,key,code⟩:=c
 simp only at h1 h7
 have h:kind=1∨kind=2∨kind=3∨kind=4∨kind=5∨kind=6∨kind=7:=by omega
 rcases h with rfl|rfl|rfl|rfl|rfl|rfl|rfl
 ·exact rbare_1 _ _ _ _ _ _ _ _
 ·exact rbare_2 _ _ _ _ _ _ _ _
 ·exact rbare_3 _ _ _ _ _ _ _ _
 ·exact rbare_4 _ _ _ _ _ _ _ _
 ·exact rbare_5 _ _ _ _ _ _ _ _
 ·exact rbare_6 _ _ _ _ _ _ _ _
 ·exact rbare_7 _ _ _ _ _ _ _ _
def rlongB (x:Int):Bool:=decide (0≤x∧x≤4611686018427387904)
set_option maxRecDepth 100000 in
theorem rlong (x:Int) (W:World):Calls Tryz.prog 47 #[.int .i64 x] W fun e w'=>e = .returned (.bool (rlongB x))∧w'=W:=by
 by_cases h0:0≤x
 ·by_cases h1:x≤4611686018427387904
  all_goals
   go_enter Tryz.func47,Tryz.ntmps47
   go_wp2
   go_ret
   exact⟨ret_bool (by simp[rlongB,h0,h1]),rfl⟩
 ·go_enter Tryz.func47,Tryz.ntmps47
  go_wp2
  go_ret
  exact⟨ret_bool (by simp[rlongB];omega),rfl⟩
theorem may_eq (kind node client inc req ver code:Int) (key:ByteArray):mayB ⟨kind,node,client,inc,req,ver,key,code⟩=(decide (1≤kind) && decide (kind≤7) && decide ((⟨kind,node,client,inc,req,ver,key,code⟩:Cmd)=bareC ⟨kind,node,client,inc,req,ver,key,code⟩) && decide (0≤node) && decide (node<255) && decide (0≤client) && decide (client≤65535) && rlongB inc && rlongB req && rlongB ver && decide ((key.size:Int)≤64) && decide (0≤code) && decide (code≤65535)):=by
 rw[Bool.eq_iff_iff]
 simp only[mayB,longB,smallB,rlongB,Bool.and_eq_true,decide_eq_true_eq]
 constructor
 ·rintro⟨⟨⟨⟨⟨a,b⟩,c⟩,d⟩,e⟩,f⟩
  exact⟨⟨⟨⟨⟨⟨⟨⟨⟨⟨⟨⟨a,b⟩,c⟩,by omega⟩,by omega⟩,by omega⟩,by omega⟩,by omega⟩,by omega⟩,by omega⟩,by omega⟩,by omega⟩,by omega⟩
 ·rintro⟨⟨⟨⟨⟨⟨⟨⟨⟨⟨⟨⟨a,b⟩,c⟩,d⟩,e⟩,f⟩,g⟩,h⟩,i⟩,j⟩,k⟩,l⟩,m⟩
  exact⟨⟨⟨⟨⟨a,b⟩,c⟩,by omega⟩,by omega⟩,by omega⟩
theorem cells8 {W w:World} {a0 a1 a2 a3 a4 a5 a6 a7:Value} {t:TypeId} (h:(W.alloc (.cells #[a0,a1,a2,a3,a4,a5,a6,a7] t)).grownBy w none) :
  w.cell? ⟨W.heap.size,0,none⟩=some a0∧w.cell? ⟨W.heap.size,1,none⟩=some a1∧w.cell? ⟨W.heap.size,2,none⟩=some a2∧w.cell? ⟨W.heap.size,3,none⟩=some a3∧w.cell? ⟨W.heap.size,4,none⟩=some a4∧w.cell? ⟨W.heap.size,5,none⟩=some a5∧w.cell? ⟨W.heap.size,6,none⟩=some a6∧w.cell? ⟨W.heap.size,7,none⟩=some a7:=by
 have e:=(h.block W.heap.size (by simp) (by simp)).trans (heap_alloc_new W _)
 refine⟨?_,?_,?_,?_,?_,?_,?_,?_⟩ <;> simp[World.cell?,e]
set_option maxHeartbeats 4000000 in
set_option maxRecDepth 100000 in
theorem rmay_any (c:Cmd) (hk:(c.key.size:Int)≤9223372036854775807) (W:World):Calls Tryz.prog 11 #[encCmd c] W fun e w'=>e = .returned (.bool (mayB c))∧W.grownBy w' none:=by
 obtain⟨kind,node,client,inc,req,ver,key,code⟩:=c
 simp only at hk
 have hm:=may_eq kind node client inc req ver code key
 have hbare:=fun h1 h7 W=>rbare_any ⟨kind,node,client,inc,req,ver,key,code⟩ h1 h7 W
 generalize hE:decide ((⟨kind,node,client,inc,req,ver,key,code⟩:Cmd)=bareC ⟨kind,node,client,inc,req,ver,key,code⟩)=E at hm hbare
 clear hE
 have HB:Hid (1≤kind→kind≤7→∀W,Calls Tryz.prog 46 #[(.agg #[.int .u8 kind,.int .i64 node,.int .i64 client,.int .i64 inc,.int .i64 req,.int .i64 ver,.string key,.int .i64 code]:Value)] W fun e w'=>e = .returned (.bool E)∧W.grownBy w' none):=hbare
 clear hbare
 have L1:=Lib.hid (rlong inc)
 have L2:=Lib.hid (rlong req)
 have L3:=Lib.hid (rlong ver)
 generalize rlongB inc=B1 at *
 generalize rlongB req=B2 at *
 generalize rlongB ver=B3 at *
 have HM:=Lib.hid hm
 clear hm
 simp only[encCmd]
 go_enter Tryz.func11,Tryz.ntmps11
 go_wp2_with (first
  | (go_at_call 46;refine(HB.out (by assumption) (by assumption) _).mono ?_;rintro e w1 ⟨rfl,hg⟩;obtain⟨d0,d1,d2,d3,d4,d5,d6,d7⟩:=cells8 hg;have HG:=Lib.hid hg;clear hg)
  | (go_at_call 47;(first|refine(L1.out _).mono ?_|refine(L2.out _).mono ?_|refine(L3.out _).mono ?_);rintro e w2 ⟨rfl,rfl⟩))
 all_goals
  go_ret
  refine⟨ret_bool ?_,?_⟩
  ·rw[HM.out];simp[*] <;> intros <;> omega
  ·first|exact World.grownBy_alloc W _ none|exact grown_trans (World.grownBy_alloc W _ none) HG.out
theorem cmd8 {w:World} {b:Nat} {a0 a1 a2 a3 a4 a5 a6 a7:Value} {t:TypeId} (h:w.heap[b]? = some (.cells #[a0,a1,a2,a3,a4,a5,a6,a7] t (0,0))) :
  w.cell? ⟨b,0,none⟩=some a0∧w.cell? ⟨b,1,none⟩=some a1∧w.cell? ⟨b,2,none⟩=some a2∧w.cell? ⟨b,3,none⟩=some a3∧w.cell? ⟨b,4,none⟩=some a4∧w.cell? ⟨b,5,none⟩=some a5∧w.cell? ⟨b,6,none⟩=some a6∧w.cell? ⟨b,7,none⟩=some a7:=
 ⟨(cell_block h 0).trans rfl,(cell_block h 1).trans rfl,(cell_block h 2).trans rfl,(cell_block h 3).trans rfl,(cell_block h 4).trans rfl,(cell_block h 5).trans rfl,(cell_block h 6).trans rfl,(cell_block h 7).trans rfl⟩
section
variable {w0 W : World} {own : Nat → Prop} {tb rb : Nat} {L : Tab} {R : RTab}
end
theorem duo_new {w w1 w2:World} {tb rb:Nat} {L:Tab} {R:RTab} (hg0:w.grownBy w1 none) (hA:At (fun k=>w.heap.size≤k) w1 tb L) (hR:RAt (fun k=>w1.heap.size≤k) w2 rb R) (hg:w1.grownBy w2 none):Duo w (fun _=>False) tb rb L R w2:=by
 refine⟨⟨fun k=>w1.heap.size≤k∧k<w2.heap.size,?_,?_,fun k hk=>⟨hk.2,fun e=>e⟩⟩,fun k hk=>hk.elim,grown_trans hg0 hg⟩
 ·exact(hA.mono fun k hk hb=>⟨hb,fun e=>e,fun e=>by omega⟩).grown hg
 ·exact hR.mono fun k hk hb=>⟨Nat.le_trans hg0.size hb,hb,hk⟩
structure Md (N k j:Nat) (L:Tab):Prop where
 inv:Inv N k L
 rng:Rng L
 cl:Clean L
 nx:L.next≤j+1
 of:L.offers≤j
 vl:L.values.length≤j
theorem mem_holdL (L:Tab) (i:ID) (x:Int):x∈holdL L i↔x∈memH L.holds i:=by unfold holdL;exact List.mem_mergeSort
theorem mem_misN {L:Tab} {i:ID} {N:Nat} {x:Int}:x∈misN L i N↔(∃j:Nat,j<N∧x=j)∧0<lifeV L x∧x ∉ memH L.holds i:=by
 unfold misN
 simp only[List.mem_filter,List.mem_map,List.mem_range,Bool.and_eq_true,decide_eq_true_eq,Bool.not_eq_true',decide_eq_false_iff_not,mem_holdL]
 constructor
 ·rintro⟨⟨j,h1,h2⟩,h3,h4⟩;exact⟨⟨j,h1,h2.symm⟩,h3,h4⟩
 ·rintro⟨⟨j,h1,h2⟩,h3,h4⟩;exact⟨⟨j,h1,h2.symm⟩,h3,h4⟩
theorem misN_nodup (L:Tab) (i:ID) (N:Nat):(misN L i N).Nodup:=by
 unfold misN
 refine List.Nodup.sublist List.filter_sublist ?_
 rw[List.nodup_iff_pairwise_ne,List.pairwise_map]
 exact List.Pairwise.imp (fun h e=>h (by omega)) (List.nodup_iff_pairwise_ne.1 List.nodup_range)
def ackC (L:Tab) (i:ID) (x:Int):Cmd:=⟨4,x,0,lifeV L x,0,i.ver,i.key,0⟩
section
variable {N k j : Nat} {L : Tab}
theorem cur_parts (h:Md N k j L) {i:ID} (hi:i∈curL L):1≤i.ver∧i.ver≤j∧i.key.size≤64∧look L i.key=i.ver∧wantedB L i=true∧mget L.pending i=none:=by
 have hm:=(mem_curL h.rng.vn i).1 hi
 have hv:lookV L i.key=⟨i.ver,false⟩:=by unfold lookV;rw[hm];rfl
 have hl:look L i.key=i.ver:=by unfold look;rw[hv];simp
 have hmem:(i.key,(⟨i.ver,false⟩:Val))∈L.values:=by
  obtain⟨v,hv2⟩:=mget_some_iff.1 (by rw[hm];rfl)
  rw[mget_of_mem h.rng.vn hv2] at hm
  cases hm
  exact hv2
 have hr:=h.rng.v _ hmem
 have hvv:=(h.inv.vv i.key).1
 rw[hv] at hvv
 have hn:=h.nx
 simp only at hr hvv
 refine⟨hr.1,by omega,hr.2,hl,?_,?_⟩
 ·unfold wantedB;simp[hl];exact Or.inr (by omega)
 ·cases e:mget L.pending i with
  | none=>rfl
  | some p=>
   obtain⟨v,hp⟩:=mget_some_iff.1 (by rw[e];rfl)
   exact absurd hl (h.inv.look_ne hp)
theorem ack_may (h:Md N k j L) (hN:N≤100) (hj:j≤1000) {i:ID} (hi:i∈curL L) {x:Int} (hx:x∈misN L i N):mayB (ackC L i x)=true∧(ackC L i x).node<(L.lives.length:Int):=by
 obtain⟨⟨a,h1,rfl⟩,h2,h3⟩:=mem_misN.1 hx
 obtain⟨c1,c2,c3,c4,c5,c6⟩:=cur_parts h hi
 have hle:=(h.inv.lifeV_le (a:Int)).2
 have hof:=h.of
 have hln:=h.inv.ln
 refine⟨?_,by show(a:Int)<_;omega⟩
 unfold mayB longB smallB
 simp only[Bool.and_eq_true,decide_eq_true_eq]
 refine⟨⟨⟨⟨⟨show(1:Int)≤4 by decide,show(4:Int)≤7 by decide⟩,?_⟩,?_⟩,?_⟩,c3⟩
 ·unfold bareC ackC;simp
 ·show 0≤lifeV L a∧lifeV L a≤_∧(0:Int)≤0∧(0:Int)≤_∧0≤i.ver∧i.ver≤_
  omega
 ·show 0≤(a:Int)∧(a:Int)<255∧(0:Int)≤0∧(0:Int)≤65535∧(0:Int)≤0∧(0:Int)≤65535
  omega
theorem ack_is (h:Md N k j L) (hN:N≤100) (hj:j≤1000) {i:ID} (hi:i∈curL L) {x:Int} (hx:x∈misN L i N):actT L (ackC L i x)=cleanT (heldT L i x 0):=by
 obtain⟨hm,hn⟩:=ack_may h hN hj hi hx
 obtain⟨⟨a,h1,rfl⟩,h2,h3⟩:=mem_misN.1 hx
 obtain⟨c1,c2,c3,c4,c5,c6⟩:=cur_parts h hi
 unfold actT
 rw[if_pos ⟨hm,hn⟩]
 unfold stepT doT
 have e:opT L (ackC L i a) 0=ackT L (ackC L i a) 0:=rfl
 rw[e,ackT_t (by
  unfold ackB nowB
  simp only[Bool.and_eq_true,decide_eq_true_eq]
  exact⟨⟨h2,rfl⟩,c5⟩)]
 congr 1
 show ackRest (heldT L i a 0) _=_
 unfold ackRest
 have e2:mget (heldT L i (a:Int) 0).pending ⟨(ackC L i a).key,(ackC L i a).ver⟩=none:=c6
 rw[e2]
theorem ack_holds (h:Md N k j L) (hN:N≤100) (hj:j≤1000) {i:ID} (hi:i∈curL L) {x:Int} (hx:x∈misN L i N) {i':ID} (hi':i'∈curL L) (y:Int):y∈memH (actT L (ackC L i x)).holds i'↔y∈memH L.holds i'∨(i'=i∧y=x):=by
 rw[ack_is h hN hj hi hx,←mem_sadd L.holds i i' x y]
 obtain⟨⟨a,h1,rfl⟩,h2,h3⟩:=mem_misN.1 hx
 have hU:Inv N k (heldT L i (a:Int) 0):=inv_held h.inv i a ⟨by omega,by omega⟩
 have hw:wantedB (heldT L i (a:Int) 0) i'=true:=(cur_parts h hi').2.2.2.2.1
 show y∈memH ((sadd L.holds i (a:Int) 0).filter fun p=>!struckH (heldT L i (a:Int) 0) p.1 p.2) i'↔_
 unfold memH
 have hnd:((sadd L.holds i (a:Int) 0).map (·.1)).Nodup:=hU.hm.nodup
 rw[mget_filter hnd]
 show y∈(((mget (sadd L.holds i (a:Int) 0) i').bind fun v=>if (!struckH (heldT L i (a:Int) 0) i' v)=true then some v else none).map (·.mem)).getD []↔_
 cases e:mget (sadd L.holds i (a:Int) 0) i' with
 | none=>simp
 | some v=>
  simp only[Option.bind_some,Option.map_some,Option.getD_some]
  unfold struckH
  rw[hw]
  by_cases hz:v.mem.length=0
  ·simp[List.eq_nil_of_length_eq_zero hz]
  ·simp[hz]
theorem ack_md (h:Md N k j L) (hN:N≤100) (hj:j≤1000) {i:ID} (hi:i∈curL L) {x:Int} (hx:x∈misN L i N):Md N k j (actT L (ackC L i x))∧curL (actT L (ackC L i x))=curL L∧(∀n,lifeV (actT L (ackC L i x)) n=lifeV L n)∧(actT L (ackC L i x)).next=L.next∧(actT L (ackC L i x)).offers=L.offers:=by
 have e:=ack_is h hN hj hi hx
 have a1:=act_inv h.inv (ackC L i x)
 have a2:=rng_act (c:=ackC L i x) h.inv h.rng (by have:=h.nx;omega)
 have a3:=act_clean h.inv h.cl (ackC L i x)
 refine⟨⟨a1,a2,a3,?_,?_,?_⟩,?_,?_,?_,?_⟩ <;> rw[e]
 ·exact h.nx
 ·exact h.of
 ·exact h.vl
 ·rfl
 ·intro n;rfl
 ·rfl
 ·rfl
end
def cntL (L:Tab) (N:Nat):Nat:=((curL L).map fun i=>(misN L i N).length).sum
theorem rawT_need (L:Tab) (N:Nat):rawT (needL L N)=(curL L).flatMap fun i=>ndT (ndL L N i):=by
 unfold rawT needL
 rw[List.flatMap_assoc]
 congr 1
 funext i
 unfold ndS
 split
 ·rename_i h;unfold ndT;rw[h];rfl
 ·simp
theorem cnt_raw (L:Tab) (N:Nat):(rawT (needL L N)).length=cntL L N:=by
 rw[rawT_need,List.length_flatMap]
 unfold cntL
 congr 1
 exact List.map_congr_left fun i _=>by simp[ndT,ndL]
theorem mem_raw {L:Tab} {N:Nat} {t:Tsk}:t∈rawT (needL L N)↔t.id∈curL L∧t.nd∈misN L t.id N∧t.held=((holdL L t.id).length:Nat):=by
 rw[rawT_need]
 simp only[List.mem_flatMap,ndT,ndL,List.mem_map]
 constructor
 ·rintro⟨i,hi,x,hx,rfl⟩;exact⟨hi,hx,rfl⟩
 ·rintro⟨h1,h2,h3⟩
  obtain⟨i,n,hd⟩:=t
  exact⟨i,h1,n,h2,by simp only at h3;rw[h3]⟩
theorem sum_less {α:Type} [DecidableEq α] (f g:α→Nat):∀(l:List α) (i:α),l.Nodup→i∈l→g i+1=f i→(∀x∈l,x≠i→g x=f x)→(l.map g).sum+1=(l.map f).sum
 | [],i,_,h,_,_=>by simp at h
 | a :: r,i,hn,h,he,hs=>by
  obtain⟨h1,h2⟩:=List.nodup_cons.1 hn
  simp only[List.map_cons,List.sum_cons]
  by_cases e:a=i
  ·subst e
   have:(r.map g)=(r.map f):=List.map_congr_left fun x hx=>hs x (by simp[hx]) (fun e=>h1 (by rw[←e];exact hx))
   rw[this];omega
  ·have hi:i∈r:=by rcases List.mem_cons.1 h with h|h;exact absurd h.symm e;exact h
   have ih:=sum_less f g r i h2 hi he fun x hx hne=>hs x (by simp[hx]) hne
   have:=hs a (by simp) e
   omega
section
variable {N k j : Nat} {L : Tab}
theorem ack_mis (h:Md N k j L) (hN:N≤100) (hj:j≤1000) {i:ID} (hi:i∈curL L) {x:Int} (hx:x∈misN L i N) {i':ID} (hi':i'∈curL L) (y:Int):y∈misN (actT L (ackC L i x)) i' N↔y∈misN L i' N∧¬(i'=i∧y=x):=by
 obtain⟨_,_,hl,_⟩:=ack_md h hN hj hi hx
 rw[mem_misN,mem_misN,hl,ack_holds h hN hj hi hx hi']
 constructor
 ·rintro⟨a,b,c⟩;exact⟨⟨a,b,fun d=>c (Or.inl d)⟩,fun d=>c (Or.inr d)⟩
 ·rintro⟨⟨a,b,c⟩,d⟩;exact⟨a,b,fun e=>e.elim c d⟩
theorem cnt_ack (h:Md N k j L) (hN:N≤100) (hj:j≤1000) {i:ID} (hi:i∈curL L) {x:Int} (hx:x∈misN L i N):cntL (actT L (ackC L i x)) N+1=cntL L N:=by
 obtain⟨_,hc,_,_⟩:=ack_md h hN hj hi hx
 unfold cntL
 rw[hc]
 refine sum_less _ _ _ i (curL_sorted h.rng.vn).nodup hi ?_ ?_
 ·have hp:(misN (actT L (ackC L i x)) i N).Perm ((misN L i N).erase x):=by
   rw[List.perm_ext_iff_of_nodup (misN_nodup _ _ _) ((misN_nodup L i N).erase x)]
   intro y
   rw[ack_mis h hN hj hi hx hi,(misN_nodup L i N).mem_erase_iff]
   constructor
   ·rintro⟨a,b⟩;exact⟨fun e=>b ⟨rfl,e⟩,a⟩
   ·rintro⟨a,b⟩;exact⟨b,fun e=>a e.2⟩
  rw[hp.length_eq,List.length_erase_of_mem hx]
  have:=List.length_pos_of_mem hx
  omega
 ·intro i' hi' hne
  have hp:(misN (actT L (ackC L i x)) i' N).Perm (misN L i' N):=by
   rw[List.perm_ext_iff_of_nodup (misN_nodup _ _ _) (misN_nodup _ _ _)]
   intro y
   rw[ack_mis h hN hj hi hx hi']
   exact⟨fun a=>a.1,fun a=>⟨a,fun e=>hne e.1⟩⟩
  exact hp.length_eq
theorem cnt_le (h:Md N k j L):cntL L N≤j*N:=by
 unfold cntL
 have h1:∀l:List ID,(l.map fun i=>(misN L i N).length).sum≤l.length*N:=by
  intro l
  induction l with
  | nil=>simp
  | cons a r ih=>simp only[List.map_cons,List.sum_cons,List.length_cons,Nat.add_mul,Nat.one_mul];have:=misN_len L a N;omega
 have h2:(curL L).length≤j:=Nat.le_trans (List.length_filterMap_le _ _) (by rw[skeys_length];exact h.vl)
 exact Nat.le_trans (h1 _) (Nat.mul_le_mul_right N h2)
theorem need_len (h:Md N k j L):(needL L N).length≤j:=by
 have:=needK_len L N (curL L).length
 unfold needK at this
 rw[List.take_length] at this
 exact Nat.le_trans this (Nat.le_trans (List.length_filterMap_le _ _) (by rw[skeys_length];exact h.vl))
theorem miss_none (h:Md N k j L) (hc:cntL L N=0) {x:Int} (h0:0≤x) (h1:x<N) (hl:0<lifeV L x):missL L x = []:=by
 unfold missL
 split
 ·rfl
 ·rw[List.filter_eq_nil_iff]
  intro i hi
  unfold notHas hasB
  have hz:(misN L i N).length=0:=by
   have:∀l:List ID,i∈l→(misN L i N).length≤(l.map fun i=>(misN L i N).length).sum:=by
    intro l
    induction l with
    | nil=>intro h;simp at h
    | cons a r ih=>
     intro h
     simp only[List.map_cons,List.sum_cons]
     rcases List.mem_cons.1 h with h|h
     ·subst h;omega
     ·have:=ih h;omega
   have:=this _ hi
   unfold cntL at hc
   omega
  have hno:x ∉ misN L i N:=by rw[List.eq_nil_of_length_eq_zero hz];simp
  rw[mem_misN] at hno
  have:x∈memH L.holds i:=by
   apply Classical.byContradiction
   intro hc2
   exact hno ⟨⟨x.toNat,by omega,by omega⟩,hl,hc2⟩
  simp[this]
end
end Go.Proofs.YtjfelfjobeeenaaGreat
