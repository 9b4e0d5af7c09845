/- How long the document's rows are behind so many commands: the plain law. Conditions: none. sameIDs at rows that are the same: walked. Conditions: both rows read as the same list. The document's New: walked. Conditions: none. tells: what both tables answer, as the walk asks for it. Conditions: both tables lie in memory and go together. -/
import Derived.Test.YtjfelfjobeeenaaGreatP21
import Derived.Test.YtjfelfjobeeenaaGreatP19
import Derived.Test.YtjfelfjobeeenaaGreatP18
import Derived.Test.YtjfelfjobeeenaaGreatP9
import Derived.Test.YtjfelfjobeeenaaGreatP22
import Derived.Test.YtjfelfjobeeenaaGreatP20
namespace Go.Proofs.YtjfelfjobeeenaaGreat
set_option linter.unusedVariables false
set_option linter.unusedSimpArgs false
open Go.RowKit Go.Sf Go.Shelf
structure RB (j:Nat) (R:RTab):Prop where
 lc:R.calls.length≤j
 lv:R.vals.length≤j
 lp:R.pends.length≤j
 lh:R.holds.length≤j
 o0:0≤R.offers
 o1:R.offers≤j
 x0:1≤R.next
 x1:R.next≤j+1
 ks:∀v∈R.vals,v.1.size≤64
theorem mput_len {K V:Type} [DecidableEq K] (m:List (K × V)) (k:K) (v:V):(mput m k v).length≤m.length+1:=by
 induction m with
 | nil=>simp[mput]
 | cons p r ih=>
  unfold mput
  split
  ·simp
  ·simp only[List.length_cons];omega
section
variable {j : Nat} {R : RTab}
theorem RB.le (h:RB j R) {i:Nat} (hi:j≤i):RB i R:=⟨by have:=h.lc;omega,by have:=h.lv;omega,by have:=h.lp;omega,by have:=h.lh;omega,h.o0,by have:=h.o1;omega,h.x0,by have:=h.x1;omega,h.ks⟩
theorem rclean_b (h:RB j R):RB j (rclean R):=⟨h.lc,h.lv,h.lp,Nat.le_trans (List.length_filter_le _ _) h.lh,h.o0,h.o1,h.x0,h.x1,h.ks⟩
theorem rsays_b (h:RB j R) (x:RHold):RB (j+1) (rsays R x):=by
 refine⟨Nat.le_succ_of_le h.lc,Nat.le_succ_of_le h.lv,Nat.le_succ_of_le h.lp,?_,h.o0,by have:=h.o1;show R.offers≤_;omega,h.x0,by have:=h.x1;show R.next≤_;omega,h.ks⟩
 have:=List.length_filter_le (fun x_1:RHold=>decide (x_1.id≠x.id) || decide (x_1.node≠x.node)) R.holds
 have h1:=h.lh
 unfold rsays
 simp only[List.length_append,List.length_cons,List.length_nil]
 omega
theorem eraseP_len {α:Type} (f:α→Bool) (l:List α):(l.eraseP f).length≤l.length:=List.Sublist.length_le List.eraseP_sublist
theorem rends_b (h:RB j R) (i:ID):RB j (rends R i):=⟨h.lc,h.lv,Nat.le_trans (eraseP_len _ _) h.lp,h.lh,h.o0,h.o1,h.x0,h.x1,h.ks⟩
theorem mput_keys {m:List (ByteArray × Val)} (h:∀v∈m,v.1.size≤64) {s:ByteArray} (hs:s.size≤64) (v:Val):∀x∈mput m s v,x.1.size≤64:=by
 intro x hx
 rcases mput_sub m s v x.1 (List.mem_map.2 ⟨x,hx,rfl⟩) with e|e
 ·rw[e];exact hs
 ·obtain⟨y,hy,e⟩:=List.mem_map.1 e
  rw[←e];exact h y hy
theorem rdo_b (h:RB j R) (c:Cmd) (hk:c.key.size≤64):RB (j+1) (rdo R c):=by
 have h1:=h.lc
 have h2:=h.lv
 have h3:=h.lp
 have h4:=h.lh
 have h5:=h.o0
 have h6:=h.o1
 have h7:=h.x0
 have h8:=h.x1
 have h9:=h.ks
 have e1:=fun (n:Int) (v:CallT)=>mput_len R.calls n v
 have e2:=fun (s:ByteArray) (v:Val)=>mput_len R.vals s v
 have e3:=fun (f:ID × Pend→Bool)=>eraseP_len f R.pends
 have e4:=fun (f:RHold→Bool)=>List.length_filter_le f R.holds
 unfold rdo
 split
 ·exact rclean_b ⟨by show R.calls.length≤_;omega,by show R.vals.length≤_;omega,by show R.pends.length≤_;omega,by show R.holds.length≤_;omega,by show 0≤R.offers+1;omega,by show R.offers+1≤_;omega,h7,by show R.next≤_;omega,h9⟩
 ·split
  ·refine rclean_b ?_
   split
   ·exact⟨by show R.calls.length≤_;omega,by show R.vals.length≤_;omega,by show R.pends.length≤_;omega,by show R.holds.length≤_;omega,h5,by show R.offers≤_;omega,h7,by show R.next≤_;omega,h9⟩
   ·exact h.le (Nat.le_succ j)
  ·split
   ·refine rclean_b ?_
    split
    ·refine⟨?_,by show R.vals.length≤_;omega,?_,by show R.holds.length≤_;omega,h5,by show R.offers≤_;omega,by show 1≤R.next+1;omega,by show R.next+1≤_;omega,h9⟩
     ·have:=e1 c.client ⟨c.req,R.next,false,0⟩
      show(mput R.calls c.client ⟨c.req,R.next,false,0⟩).length≤_
      omega
     ·have:=e3 fun p:ID × Pend=>decide (p.2.client=c.client)
      show((R.pends.eraseP fun p:ID × Pend=>decide (p.2.client=c.client)) ++ [_]).length≤_
      rw[List.length_append,List.length_singleton]
      omega
    ·exact h.le (Nat.le_succ j)
   ·split
    ·unfold rack
     split
     ·have hs:=rsays_b h ⟨⟨c.key,c.ver⟩,c.node,c.inc,false⟩
      split
      ·exact hs
      ·split
       ·exact hs
       ·refine rclean_b ?_
        have hr:=rends_b hs ⟨c.key,c.ver⟩
        have hv:RB (j+1) (rvalued (rends (rsays R ⟨⟨c.key,c.ver⟩,c.node,c.inc,false⟩) ⟨c.key,c.ver⟩) c):=by
         unfold rvalued
         split
         ·refine⟨hr.lc,?_,hr.lp,hr.lh,hr.o0,hr.o1,hr.x0,hr.x1,?_⟩
          ·have:=e2 c.key ⟨c.ver,false⟩
           show(mput R.vals c.key ⟨c.ver,false⟩).length≤_
           omega
          ·exact mput_keys h9 hk _
         ·exact hr
        have hcalls:(rvalued (rends (rsays R ⟨⟨c.key,c.ver⟩,c.node,c.inc,false⟩) ⟨c.key,c.ver⟩) c).calls=R.calls:=by
         unfold rvalued;split <;> rfl
        unfold rdone
        split
        ·refine⟨?_,hv.lv,hv.lp,hv.lh,hv.o0,hv.o1,hv.x0,hv.x1,hv.ks⟩
         show(mput _ _ _).length≤_
         rw[hcalls]
         exact Nat.le_trans (e1 _ _) (by omega)
        ·exact hv
     ·exact h.le (Nat.le_succ j)
    ·split
     ·unfold rrefuse
      split
      ·exact h.le (Nat.le_succ j)
      ·split
       ·refine rclean_b ?_
        have hs:=rsays_b h ⟨⟨c.key,c.ver⟩,c.node,c.inc,true⟩
        split
        ·have hr:=rends_b hs ⟨c.key,c.ver⟩
         unfold rdone
         split
         ·refine⟨?_,hr.lv,hr.lp,hr.lh,hr.o0,hr.o1,hr.x0,hr.x1,hr.ks⟩
          show(mput R.calls _ _).length≤_
          exact Nat.le_trans (e1 _ _) (by omega)
         ·exact hr
        ·exact hs
       ·exact h.le (Nat.le_succ j)
     ·split
      ·refine rclean_b ?_
       split
       ·refine⟨?_,?_,?_,by show R.holds.length≤_;omega,h5,by show R.offers≤_;omega,by show 1≤R.next+1;omega,by show R.next+1≤_;omega,?_⟩
        ·show(mput R.calls _ _).length≤_
         exact Nat.le_trans (e1 _ _) (by omega)
        ·show(mput R.vals _ _).length≤_
         exact Nat.le_trans (e2 _ _) (by omega)
        ·show(R.pends.eraseP _).length≤_
         exact Nat.le_trans (e3 _) (by omega)
        ·exact mput_keys h9 hk _
       ·exact h.le (Nat.le_succ j)
      ·refine rclean_b ?_
       split
       ·refine⟨?_,by show R.vals.length≤_;omega,?_,by show R.holds.length≤_;omega,h5,by show R.offers≤_;omega,h7,by show R.next≤_;omega,h9⟩
        ·show(mput R.calls _ _).length≤_
         exact Nat.le_trans (e1 _ _) (by omega)
        ·show(R.pends.eraseP _).length≤_
         exact Nat.le_trans (e3 _) (by omega)
       ·exact h.le (Nat.le_succ j)
theorem rnew_b (N:Nat) (w:Int):RB 0 (rnew N w):=⟨Nat.le_refl _,Nat.le_refl _,Nat.le_refl _,Nat.le_refl _,Int.le_refl _,Int.le_refl _,Int.le_refl _,Int.le_refl _,fun v hv=>by simp[rnew] at hv⟩
theorem RB.rok (h:RB j R) (hj:j≤1000) {T:Tab} {n k:Nat} (hI:Inv n k T) (hs:Sim T R) (hn:n≤1000) (hk:k≤1000):ROk R:=by
 have hN:=hs.s0.N
 have hl:=hs.s0.lives
 have hln:=hI.ln
 have hw:=hs.s0.W
 have hkw:=hI.w
 refine⟨by have:=h.lc;omega,by have:=h.lv;omega,by have:=h.lp;omega,by have:=h.lh;omega,by rw[hl];omega,fun x hx=>?_,by rw[hl];exact hN,h.o0,by have:=h.o1;omega,by have:=h.x0;omega,by have:=h.x1;omega,by omega,by omega⟩
 have:=hs.s0.hb x hx
 rw[hl]
 omega
end
section
variable {W : World}
set_option maxHeartbeats 4000000 in
set_option maxRecDepth 100000 in
theorem sameIDs_any {va vb:Value} {l:List ID} (ha:LRead W 2 idCells va l) (hb:LRead W 2 idCells vb l) (hl:l.length≤1000000):Calls Tryz.prog 147 #[va,vb] W fun e w'=>e = .returned (.bool true)∧W.grownBy w' none:=by
 obtain⟨pa,ca,rfl,ha⟩:=ha
 obtain⟨pb,cb,rfl,hb⟩:=hb
 have HA:=Lib.hid ha
 have HB:=Lib.hid hb
 clear ha hb
 go_enter Tryz.func147,Tryz.ntmps147
 go_wp2
 go_loopw [5] (fun x wr=>∃k:Nat,k≤l.length∧x = .int .i64 k∧W.grownBy wr none) (fun x _=>l.length-(intOf x).toNat)
 case atStart=>exact⟨0,Nat.zero_le _,rfl,grown_refl _⟩
 case round=>
  obtain⟨k,hk,rfl,hg⟩:=hrel
  have HG:=Lib.hid hg
  by_cases hlt:k<l.length
  ·obtain⟨ga,rfl,ea⟩:=HA.out.resolve_left (fun e=>by rw[e] at hlt;simp at hlt)
   obtain⟨gb,rfl,eb⟩:=HB.out.resolve_left (fun e=>by rw[e] at hlt;simp at hlt)
   have fa:wr.cell? ⟨ga,k*2,none⟩=some (.string l[k].key):=hg.cell (ea k hlt 0 _ rfl) (by simp)
   have fa1:wr.cell? ⟨ga,k*2+1,none⟩=some (.int .i64 l[k].ver):=hg.cell (ea k hlt 1 _ rfl) (by simp)
   have fb:wr.cell? ⟨gb,k*2,none⟩=some (.string l[k].key):=hg.cell (eb k hlt 0 _ rfl) (by simp)
   have fb1:wr.cell? ⟨gb,k*2+1,none⟩=some (.int .i64 l[k].ver):=hg.cell (eb k hlt 1 _ rfl) (by simp)
   clear ea eb hg
   generalize l[k]=z at *
   obtain⟨zk,zv⟩:=z
   simp only at fa fa1 fb fb1
   have hd:(zk.toList != zk.toList)=false:=by simp
   have hd2:(zv != zv)=false:=by simp
   go_wp2
   go_quiet (fail)
   go_wp2
   go_roundw
   case rel=>exact⟨k+1,by omega,by go_num,grown_trans HG.out (grown_drewN _ _)⟩
   case measure=>simp[intOf];omega
  ·obtain rfl:k=l.length:=by omega
   clear hg
   go_wp2
   go_ret
   exact⟨rfl,HG.out⟩
end
theorem flatI:∀l:List Int,l.flatMap cellsI=l.map (Value.int .i64)
 | []=>rfl
 | x :: r=>by simp only[List.flatMap_cons,List.map_cons,flatI r];rfl
theorem rnew_row (w:World) (N:Nat) (hN:N≤255):SRow (w.alloc (.cells (madeCells #[.int .i64 0] N) 2)) 2 1 cellsI (.slice (some ⟨w.heap.size,0,none⟩) N N) (List.replicate N (0:Int)):=by
 unfold SRow
 rw[List.length_replicate,flatI]
 refine⟨by simp,.inr ⟨w.heap.size,N,madeCells #[.int .i64 0] N,rfl,Nat.zero_le _,heap_alloc_new w _,Nat.le_refl _,by unfold maxLen;omega,by simp[madeCells],?_⟩⟩
 rw[made_cells]
 simp
theorem rnew_rep (w:World) (N:Nat) (wi:Int) (hN:N≤255) (bs:Nat→Prop) (hbs:∀k,w.heap.size≤k→bs k) :
  RAt bs ((w.alloc (.cells (madeCells #[.int .i64 0] N) 2)).alloc (.cells #[.int .i64 (N:Int),.int .i64 wi,.int .i64 0,.int .i64 1,.slice (some ⟨w.heap.size,0,none⟩) N N,.slice none 0 0,.slice none 0 0,.slice none 0 0,.slice none 0 0] 52)) (w.heap.size+1) (rnew N wi):=by
 have hr:=rnew_row w N hN
 have hl:(rnew N wi).lives=List.replicate N (0:Int):=rfl
 refine⟨.slice (some ⟨w.heap.size,0,none⟩) N N,.slice none 0 0,.slice none 0 0,.slice none 0 0,.slice none 0 0,⟨?_,?_,World.ownsRow_nil _ _ _ _,World.ownsRow_nil _ _ _ _,World.ownsRow_nil _ _ _ _,World.ownsRow_nil _ _ _ _⟩,hbs _ (by omega),fun g hg=>?_,fun g hg=>by simp[Value.ownBlock] at hg,fun g hg=>by simp[Value.ownBlock] at hg,fun g hg=>by simp[Value.ownBlock] at hg,fun g hg=>by simp[Value.ownBlock] at hg⟩
 ·have:=heap_alloc_new (w.alloc (.cells (madeCells #[.int .i64 0] N) 2)) (.cells #[.int .i64 (N:Int),.int .i64 wi,.int .i64 0,.int .i64 1,.slice (some ⟨w.heap.size,0,none⟩) N N,.slice none 0 0,.slice none 0 0,.slice none 0 0,.slice none 0 0] 52)
  simp only[World.size_alloc] at this
  exact this
 ·rw[hl]
  exact hr.grown (grown_alloc (grown_refl _) _) (by simp)
 ·simp only[Value.ownBlock,Option.some.injEq] at hg
  subst hg
  exact hbs _ (Nat.le_refl _)
theorem clampW_max (N:Nat) (w:Int) (h:1≤N):clampW N w=max 1 (min (N:Int) w):=by
 unfold clampW
 split
 ·omega
 ·split <;> omega
set_option maxHeartbeats 4000000 in
set_option maxRecDepth 100000 in
theorem rnew_any (nodes wi:Int) (N:Nat) (hN:(N:Int)=clampN nodes) (w:World) (bs:Nat→Prop) (hbs:∀k,w.heap.size≤k→bs k) :
  Calls Tryz.prog 38 #[.int .i64 nodes,.int .i64 wi] w fun e w'=>∃rb,e = .returned (.pointer (some ⟨rb,0,none⟩))∧RAt bs w' rb (rnew N (clampW N wi))∧w.grownBy w' none:=by
 have hN1:1≤N:=by unfold clampN at hN;split at hN <;> (try split at hN) <;> omega
 have hN2:N≤255:=by unfold clampN at hN;split at hN <;> (try split at hN) <;> omega
 have hmk:=run_make_row' (P:=Tryz.prog) 46 2 (.int .i64 0) 8 Tryz.underlying46 info_i64 rfl .i64 .i64 N (by omega) (by omega)
 have HN:=Lib.hid hN
 have HBS:=Lib.hid hbs
 clear hN hbs
 go_enter Tryz.func38,Tryz.ntmps38
 go_upto_region 1 with fail
 go_cut [5] (fun s wx=>s = .int .i64 N∧wx=w)
 case first=>
  clear hmk
  go_wp2
  all_goals (go_meet;refine⟨?_,rfl⟩;have:=HN.out;unfold clampN at this;congr 1;(repeat (split at this)) <;> omega)
 case rest=>
  obtain⟨rfl,rfl⟩:=hcut
  go_wp2
  all_goals
   go_ret
   refine⟨wc.heap.size+1,rfl,?_,by repeat (first|exact grown_refl _|exact World.grownBy_alloc _ _ _|refine grown_alloc ?_ _)⟩
   have h:=rnew_rep wc N (clampW N wi) hN2 bs HBS.out
   rw[clampW_max N wi hN1] at h ⊢
   exact h
open Go.RowKit Go.Sf Go.Shelf Go.Maps
structure Both (n k j:Nat) (L:Tab) (R:RTab):Prop where
 inv:Inv n k L
 sim:Sim L R
 rb:RB j R
theorem nodup_len {α:Type} [DecidableEq α]:∀(l1 l2:List α),l1.Nodup→(∀x∈l1,x∈l2)→l1.length≤l2.length
 | [],_,_,_=>Nat.zero_le _
 | a :: r,l2,hn,h=>by
  obtain⟨h1,h2⟩:=List.nodup_cons.1 hn
  have ha:=h a (by simp)
  have:=nodup_len r (l2.erase a) h2 (fun x hx=>(List.mem_erase_of_ne (by rintro rfl;exact h1 hx)).2 (h x (List.mem_cons_of_mem _ hx)))
  rw[List.length_erase_of_mem ha] at this
  have:=List.length_pos_of_mem ha
  simp only[List.length_cons]
  omega
section
variable {n k j : Nat} {L : Tab} {R : RTab}
theorem Both.val_mem (h:Both n k j L R) {p:ByteArray × Val} (hp:p∈L.values):p∈R.vals:=by
 have h1:=mget_of_mem h.sim.s0.tvn (k:=p.1) (v:=p.2) hp
 rw[←h.sim.s0.vals] at h1
 exact mget_mem h1
theorem Both.vlen (h:Both n k j L R):L.values.length≤j:=by
 have h1:=nodup_len (L.values.map (·.1)) (R.vals.map (·.1)) h.sim.s0.tvn (fun x hx=>by
  obtain⟨p,hp,rfl⟩:=List.mem_map.1 hx
  exact List.mem_map.2 ⟨p,h.val_mem hp,rfl⟩)
 rw[List.length_map,List.length_map] at h1
 exact Nat.le_trans h1 h.rb.lv
theorem Both.vkeys (h:Both n k j L R):∀p∈L.values,p.1.size≤maxLen:=fun p hp=>by
 have:=h.rb.ks p (h.val_mem hp)
 unfold maxLen;omega
theorem Both.plen (h:Both n k j L R):L.pending.length≤j:=by
 have h1:=h.inv.pend_len
 have h2:=h.rb.x1
 have h3:=h.sim.s0.next
 omega
theorem ints_lread {w w':World} {v:Value} {l:List Int} (h:Ints w w' v l):LRead w' 1 cellsI v l:=by
 have h1:SRow w' 3 1 cellsI v l:=by
  unfold SRow
  rw[flatI]
  exact⟨h.1.1,h.1.2.imp id fun ⟨g,cap,cur,hv,_,rest⟩=>⟨g,cap,cur,hv,Nat.zero_le _,rest⟩⟩
 exact h1.lread lenI
theorem LRead.kept {α:Type} {W W':World} {sz:Nat} {enc:α→List Value} {v:Value} {l:List α} (h:LRead W sz enc v l) (hg:W.grownBy W' none):LRead W' sz enc v l:=by
 obtain⟨p,cap,e,h1⟩:=h
 exact⟨p,cap,e,h1.imp id fun ⟨g,e2,h2⟩=>⟨g,e2,fun i hi j u hu=>hg.cell (h2 i hi j u hu) (by simp)⟩⟩
structure Telling (W:World) (tb rb:Nat) (L:Tab) (R:RTab):Prop where
 call:∀w,W.grownBy w none→∀m,Calls Tryz.prog 32 #[.pointer (some ⟨tb,0,none⟩),.int .i64 m] w fun e w'=>e = .returned (.agg #[.int .i64 (callV L m).req,.int .i64 (callV L m).ver,.bool (callV L m).done,.int .i64 (callV L m).code])∧w.grownBy w' none
 rcall:∀w,W.grownBy w none→∀m,Calls Tryz.prog 146 #[.pointer (some ⟨rb,0,none⟩),.int .i64 m] w fun e w'=>e = .returned (.agg #[.int .i64 m,.int .i64 (callV L m).req,.int .i64 (callV L m).ver,.bool (callV L m).done,.int .i64 (callV L m).code])∧w.grownBy w' none
 offered:∀w,W.grownBy w none→Calls Tryz.prog 35 #[.pointer (some ⟨tb,0,none⟩)] w fun e w'=>e = .returned (.int .i64 L.offers)∧w.grownBy w' none
 next:∀w,W.grownBy w none→Calls Tryz.prog 31 #[.pointer (some ⟨tb,0,none⟩)] w fun e w'=>e = .returned (.int .i64 L.next)∧w.grownBy w' none
 rc0:W.cell? ⟨rb,0,none⟩=some (.int .i64 R.N)
 rc2:W.cell? ⟨rb,2,none⟩=some (.int .i64 L.offers)
 rc3:W.cell? ⟨rb,3,none⟩=some (.int .i64 L.next)
 pending:∀w,W.grownBy w none→Calls Tryz.prog 33 #[.pointer (some ⟨tb,0,none⟩)] w fun e w'=>∃v,e = .returned v∧LRead w' 2 idCells v (rpendL R)∧w.grownBy w' none
 rpending:∀w,W.grownBy w none→Calls Tryz.prog 148 #[.pointer (some ⟨rb,0,none⟩)] w fun e w'=>∃v,e = .returned v∧LRead w' 2 idCells v (rpendL R)∧w.grownBy w' none
 current:∀w,W.grownBy w none→Calls Tryz.prog 42 #[.pointer (some ⟨tb,0,none⟩)] w fun e w'=>∃v,e = .returned v∧LRead w' 2 idCells v (rcurL R)∧w.grownBy w' none
 rcurrent:∀w,W.grownBy w none→Calls Tryz.prog 137 #[.pointer (some ⟨rb,0,none⟩)] w fun e w'=>∃v,e = .returned v∧LRead w' 2 idCells v (rcurL R)∧w.grownBy w' none
 look:∀w,W.grownBy w none→∀s,Calls Tryz.prog 34 #[.pointer (some ⟨tb,0,none⟩),.string s] w fun e w'=>e = .returned (.int .i64 (Go.Proofs.YtjfelfjobeeenaaGreat.look L s))∧w.grownBy w' none
 rlook:∀w,W.grownBy w none→∀s,Calls Tryz.prog 149 #[.pointer (some ⟨rb,0,none⟩),.string s] w fun e w'=>e = .returned (.int .i64 (Go.Proofs.YtjfelfjobeeenaaGreat.look L s))∧w.grownBy w' none
 life:∀w,W.grownBy w none→∀a,Calls Tryz.prog 23 #[.pointer (some ⟨tb,0,none⟩),.int .i64 a] w fun e w'=>e = .returned (.int .i64 (lifeV L a))∧w.grownBy w' none
 rlive:∀a:Nat,(a:Int)<R.N→∃gL capL len,W.cell? ⟨rb,4,none⟩=some (.slice (some ⟨gL,0,none⟩) len capL)∧W.cell? ⟨gL,a,none⟩=some (.int .i64 (lifeV L a))∧a<len∧len≤capL∧capL≤9223372036854775807
 missing:∀w,W.grownBy w none→∀a,Calls Tryz.prog 43 #[.pointer (some ⟨tb,0,none⟩),.int .i64 a] w fun e w'=>∃v,e = .returned v∧LRead w' 2 idCells v (rmissL R a)∧w.grownBy w' none
 rmissing:∀w,W.grownBy w none→∀a,Calls Tryz.prog 150 #[.pointer (some ⟨rb,0,none⟩),.int .i64 a] w fun e w'=>∃v,e = .returned v∧LRead w' 2 idCells v (rmissL R a)∧w.grownBy w' none
 wanted:∀w,W.grownBy w none→∀s m,Calls Tryz.prog 36 #[.pointer (some ⟨tb,0,none⟩),.agg #[.string s,.int .i64 m]] w fun e w'=>e = .returned (.bool (wantedB L ⟨s,m⟩))∧w.grownBy w' none
 rwanted:∀w,W.grownBy w none→∀s m,Calls Tryz.prog 115 #[.pointer (some ⟨rb,0,none⟩),.agg #[.string s,.int .i64 m]] w fun e w'=>e = .returned (.bool (wantedB L ⟨s,m⟩))∧w.grownBy w' none
 holders:∀w,W.grownBy w none→∀s m,Calls Tryz.prog 37 #[.pointer (some ⟨tb,0,none⟩),.agg #[.string s,.int .i64 m]] w fun e w'=>∃v,e = .returned v∧LRead w' 1 cellsI v (rholdL R ⟨s,m⟩)∧w.grownBy w' none
 rholders:∀w,W.grownBy w none→∀s m,Calls Tryz.prog 138 #[.pointer (some ⟨rb,0,none⟩),.agg #[.string s,.int .i64 m]] w fun e w'=>∃v,e = .returned v∧LRead w' 1 cellsI v (rholdL R ⟨s,m⟩)∧w.grownBy w' none
 lp:(rpendL R).length≤1000000
 lc:(rcurL R).length≤1000000
 lm:∀a,(rmissL R a).length≤1000000
 lh:∀i,(rholdL R i).length≤1000000
 n0:0≤R.N
 n1:R.N≤1000
 out:∀a,a<0∨R.N≤a→lifeV L a=0
theorem telling {bs cs:Nat→Prop} {W:World} {tb rb:Nat} (hT:At bs W tb L) (hM:RAt cs W rb R) (h:Both n k j L R) (hn:n≤1000) (hk:k≤1000) (hj:j≤1000):Telling W tb rb L R:=by
 have hN:R.N=n:=by rw[h.sim.s0.N,h.inv.ln]
 have ok:=h.rb.rok hj h.inv h.sim hn hk
 have hll:L.lives.length≤9223372036854775807:=by rw[h.inv.ln];omega
 have hvl:L.values.length≤1000000:=by have:=h.vlen;omega
 have hpl:L.pending.length≤1000000:=by have:=h.plen;omega
 have hrc:(rcurL R).length≤1000000:=Nat.le_trans (rcur_len R) (by have:=h.rb.lv;omega)
 refine { call:=?_,rcall:=?_,offered:=?_,next:=?_,rc0:=hM.c0,rc2:=?_,rc3:=?_,pending:=?_,rpending:=?_,current:=?_,rcurrent:=?_,look:=?_,rlook:=?_,life:=?_,rlive:=?_,missing:=?_,rmissing:=?_,wanted:=?_,rwanted:=?_,holders:=?_,rholders:=?_,lp:=?_,lc:=hrc,lm:=?_,lh:=?_,n0:=by omega,n1:=by omega,out:=fun a ha=>by unfold lifeV;rw[if_pos (by have:=h.inv.ln;omega)] }
 ·exact fun w hg m=>call_at (hT.grown hg) m
 ·intro w hg m
  have:=rcall_at (hM.grown hg) m
  rw[h.sim.s0.callV] at this
  exact this
 ·intro w hg
  obtain⟨T,h1,h2,h3⟩:=(hT.grown hg).ex
  have hq:=offered_any h1
  have e:T.offers=L.offers:=by rw[←h2];rfl
  rw[e] at hq
  exact hq
 ·exact fun w hg=>next_at (hT.grown hg)
 ·rw[hM.c2,h.sim.s0.offers]
 ·rw[hM.c3,h.sim.s0.next]
 ·intro w hg
  refine(pending_at (hT.grown hg) hpl).mono ?_
  rintro e w' ⟨v,l,h1,h2,h3⟩
  have hl:=pend_same h.inv h.sim h2.2.1 h2.2.2.1
  subst hl
  have h4:SRow w' 54 2 idCells v (rpendL R):=idRow_le h2.1 (Nat.zero_le _)
  exact⟨v,h1,h4.lread lenID,h3⟩
 ·intro w hg
  refine(rpending_any (hM.grown hg) (by have:=h.rb.lp;omega)).mono ?_
  rintro e w' ⟨v,h1,h2⟩
  exact⟨v,h1,h2.row.lread lenID,h2.grown⟩
 ·intro w hg
  refine(current_at (hT.grown hg) h.vkeys hvl).mono ?_
  rintro e w' ⟨v,h1,h2,h3⟩
  rw[cur_same h.sim] at h2
  have h4:SRow w' 54 2 idCells v (rcurL R):=idRow_le h2 (Nat.zero_le _)
  exact⟨v,h1,h4.lread lenID,h3⟩
 ·intro w hg
  refine(rcurrent_any (hM.grown hg) (by have:=h.rb.lv;omega)).mono ?_
  rintro e w' ⟨v,h1,h2⟩
  exact⟨v,h1,h2.row.lread lenID,h2.grown⟩
 ·exact fun w hg s=>look_at (hT.grown hg) s
 ·intro w hg s
  obtain⟨_,_,_,_,_,h1⟩:=(hM.grown hg).mem
  have:=rlook_core h1 s
  rw[h.sim.s0.look] at this
  exact this
 ·exact fun w hg a=>life_at (hT.grown hg) a hll
 ·intro a ha
  have hal:a<R.lives.length:=by rw[h.sim.s0.lives,h.inv.ln];omega
  obtain⟨gL,capL,h1,h2,h3,h4,h5⟩:=hM.live hal
  refine⟨gL,capL,_,h1,?_,hal,h4,h5⟩
  rw[h2]
  have:=h.sim.s0.life (a:=(a:Int)) (by omega) ha
  rw[←this]
  rfl
 ·intro w hg a
  refine(missing_at (hT.grown hg) a hll h.vkeys hvl).mono ?_
  rw[miss_same h.sim]
  exact fun e w' h=>h
 ·intro w hg a
  refine(rmissing_any (hM.grown hg) a (by have:=h.rb.lv;omega) ok.nn ok.ll).mono ?_
  rintro e w' ⟨v,h1,h2⟩
  exact⟨v,h1,h2.row.lread lenID,h2.grown⟩
 ·exact fun w hg s m=>wanted_at (hT.grown hg) ⟨s,m⟩
 ·intro w hg s m
  have:=rwanted_at (hM.grown hg) ⟨s,m⟩
  rw[h.sim.s0.wanted] at this
  exact this
 ·intro w hg s m
  refine(holders_at (hT.grown hg) ⟨s,m⟩ (h.inv.fits (by omega) _)).mono ?_
  rintro e w' ⟨v,h1,h2⟩
  rw[hold_same h.inv h.sim] at h2
  exact⟨v,h1,ints_lread h2,h2.2.2⟩
 ·intro w hg s m
  refine(rholders_any (hM.grown hg) ⟨s,m⟩ (by omega) (by omega)).mono ?_
  rintro e w' ⟨v,h1,h2⟩
  exact⟨v,h1,h2.row.lread lenI,h2.grown⟩
 ·unfold rpendL
  rw[len_sortL,List.length_map]
  have:=h.rb.lp;omega
 ·intro a
  unfold rmissL
  split
  ·simp
  ·exact Nat.le_trans (List.length_filter_le _ _) hrc
 ·intro i
  unfold rholdL
  refine Nat.le_trans (List.length_filter_le _ _) ?_
  rw[intsN_len];omega
end
end Go.Proofs.YtjfelfjobeeenaaGreat
