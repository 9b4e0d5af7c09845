/- How long the document's rows are behind so many commands: the plain law. Conditions: none, or as the theorems say. -/
import Derived.Test.YtjfelfjobeeenaaGreatN40
import Derived.Test.YtjfelfjobeeenaaGreatN38
import Derived.Test.YtjfelfjobeeenaaGreatN27
import Derived.Test.YtjfelfjobeeenaaGreatN14
import Derived.Test.YtjfelfjobeeenaaGreatN41
import Derived.Test.YtjfelfjobeeenaaGreatN16
namespace Go.Proofs.YtjfelfjobeeenaaGreat
set_option maxHeartbeats 200000000
set_option linter.unusedVariables false
set_option linter.unusedSimpArgs false
open Go.RowKit Go.Sf Go.Shelf
structure RB (j:Nat) (R:yp):Prop where
 lc:R.calls.length≤j
 lv:R.vals.length≤j
 lp:R.zv1.length≤j
 lh:R.holds.length≤j
 o0:0≤R.offers
 o1:R.offers≤j
 x0:1≤R.next
 x1:R.next≤j+1
 ks:∀v∈R.vals,v.1.size≤64
theorem zg9 {K V:Type} [DecidableEq K] (m:List (K × V)) (k:K) (v:V):(ym m k v).length≤m.length+1:=by
 induction m with
 | nil=>simp[ym]
 | cons p r ih=>
  unfold ym
  split
  ·simp
  ·simp only[List.length_cons];omega
section
variable {j : Nat} {R : yp}
theorem RB.le (h:RB j R) {i:Nat} (hi:j≤i):RB i R:=⟨by have:=h.lc;omega,by have:=h.lv;omega,by have:=h.lp;omega,by have:=h.lh;omega,h.o0,by have:=h.o1;omega,h.x0,by have:=h.x1;omega,h.ks⟩
theorem Qc (h:RB j R):RB j (ve R):=⟨h.lc,h.lv,h.lp,Nat.le_trans (List.length_filter_le _ _) h.lh,h.o0,h.o1,h.x0,h.x1,h.ks⟩
theorem zqn (h:RB j R) (x:ue):RB (j+1) (yg R x):=by
 refine⟨Nat.le_succ_of_le h.lc,Nat.le_succ_of_le h.lv,Nat.le_succ_of_le h.lp,?_,h.o0,by have:=h.o1;show R.offers≤_;omega,h.x0,by have:=h.x1;show R.next≤_;omega,h.ks⟩
 have:=List.length_filter_le (fun x_1:ue=>decide (x_1.id≠x.id) || decide (x_1.node≠x.node)) R.holds
 have h1:=h.lh;unfold yg;simp only[List.length_append,List.length_cons,List.length_nil];omega
theorem zgu {α:Type} (f:α→Bool) (l:List α):(l.eraseP f).length≤l.length:=List.Sublist.length_le List.eraseP_sublist
theorem zql (h:RB j R) (i:ID):RB j (uf R i):=⟨h.lc,h.lv,Nat.le_trans (zgu _ _) h.lp,h.lh,h.o0,h.o1,h.x0,h.x1,h.ks⟩
theorem zi3 {m:List (ByteArray × Val)} (h:∀v∈m,v.1.size≤64) {s:ByteArray} (hs:s.size≤64) (v:Val):∀x∈ym m s v,x.1.size≤64:=by
 intro x hx
 rcases zmr m s v x.1 (List.mem_map.2 ⟨x,hx,rfl⟩) with e|e
 ·rw[e];exact hs
 ·obtain⟨y,hy,e⟩:=List.mem_map.1 e
  rw[←e];exact h y hy
theorem rdo_b (h:RB j R) (c:Cmd) (hk:c.key.size≤64):RB (j+1) (rdo R c):=by
 have h1:=h.lc;have h2:=h.lv;have h3:=h.lp;have h4:=h.lh;have h5:=h.o0;have h6:=h.o1;have h7:=h.x0;have h8:=h.x1;have h9:=h.ks;have e1:=fun (n:Int) (v:yz)=>zg9 R.calls n v
 have e2:=fun (s:ByteArray) (v:Val)=>zg9 R.vals s v
 have e3:=fun (f:ID × xd→Bool)=>zgu f R.zv1
 have e4:=fun (f:ue→Bool)=>List.length_filter_le f R.holds
 unfold rdo
 split
 ·exact Qc ⟨by show R.calls.length≤_;omega,by show R.vals.length≤_;omega,by show R.zv1.length≤_;omega,by show R.holds.length≤_;omega,by show 0≤R.offers+1;omega,by show R.offers+1≤_;omega,h7,by show R.next≤_;omega,h9⟩
 ·split
  ·refine Qc ?_
   split
   ·exact⟨by show R.calls.length≤_;omega,by show R.vals.length≤_;omega,by show R.zv1.length≤_;omega,by show R.holds.length≤_;omega,h5,by show R.offers≤_;omega,h7,by show R.next≤_;omega,h9⟩
   ·exact h.le (Nat.le_succ j)
  ·split
   ·refine Qc ?_
    split
    ·refine⟨?_,by show R.vals.length≤_;omega,?_,by show R.holds.length≤_;omega,h5,by show R.offers≤_;omega,by show 1≤R.next+1;omega,by show R.next+1≤_;omega,h9⟩
     ·have:=e1 c.zvw ⟨c.zvy,R.next,false,0⟩
      show(ym R.calls c.zvw ⟨c.zvy,R.next,false,0⟩).length≤_
      omega
     ·have:=e3 fun p:ID × xd=>decide (p.2.zvw=c.zvw)
      show((R.zv1.eraseP fun p:ID × xd=>decide (p.2.zvw=c.zvw)) ++ [_]).length≤_
      rw[List.length_append,List.length_singleton];omega
    ·exact h.le (Nat.le_succ j)
   ·split
    ·unfold zf1
     split
     ·have hs:=zqn h ⟨⟨c.key,c.zvz⟩,c.node,c.zvx,false⟩
      split
      ·exact hs
      ·split
       ·exact hs
       ·refine Qc ?_
        have hr:=zql hs ⟨c.key,c.zvz⟩;have hv:RB (j+1) (Xt (uf (yg R ⟨⟨c.key,c.zvz⟩,c.node,c.zvx,false⟩) ⟨c.key,c.zvz⟩) c):=by
         unfold Xt
         split
         ·refine⟨hr.lc,?_,hr.lp,hr.lh,hr.o0,hr.o1,hr.x0,hr.x1,?_⟩
          ·have:=e2 c.key ⟨c.zvz,false⟩
           show(ym R.vals c.key ⟨c.zvz,false⟩).length≤_
           omega
          ·exact zi3 h9 hk _
         ·exact hr
        have hcalls:(Xt (uf (yg R ⟨⟨c.key,c.zvz⟩,c.node,c.zvx,false⟩) ⟨c.key,c.zvz⟩) c).calls=R.calls:=by
         unfold Xt;split <;> rfl
        unfold qx
        split
        ·refine⟨?_,hv.lv,hv.lp,hv.lh,hv.o0,hv.o1,hv.x0,hv.x1,hv.ks⟩
         show(ym _ _ _).length≤_
         rw[hcalls]
         exact Nat.le_trans (e1 _ _) (by omega)
        ·exact hv
     ·exact h.le (Nat.le_succ j)
    ·split
     ·unfold Vo
      split
      ·exact h.le (Nat.le_succ j)
      ·split
       ·refine Qc ?_
        have hs:=zqn h ⟨⟨c.key,c.zvz⟩,c.node,c.zvx,true⟩
        split
        ·have hr:=zql hs ⟨c.key,c.zvz⟩
         unfold qx
         split
         ·refine⟨?_,hr.lv,hr.lp,hr.lh,hr.o0,hr.o1,hr.x0,hr.x1,hr.ks⟩
          show(ym R.calls _ _).length≤_
          exact Nat.le_trans (e1 _ _) (by omega)
         ·exact hr
        ·exact hs
       ·exact h.le (Nat.le_succ j)
     ·split
      ·refine Qc ?_
       split
       ·refine⟨?_,?_,?_,by show R.holds.length≤_;omega,h5,by show R.offers≤_;omega,by show 1≤R.next+1;omega,by show R.next+1≤_;omega,?_⟩
        ·show(ym R.calls _ _).length≤_
         exact Nat.le_trans (e1 _ _) (by omega)
        ·show(ym R.vals _ _).length≤_
         exact Nat.le_trans (e2 _ _) (by omega)
        ·show(R.zv1.eraseP _).length≤_
         exact Nat.le_trans (e3 _) (by omega)
        ·exact zi3 h9 hk _
       ·exact h.le (Nat.le_succ j)
      ·refine Qc ?_
       split
       ·refine⟨?_,by show R.vals.length≤_;omega,?_,by show R.holds.length≤_;omega,h5,by show R.offers≤_;omega,h7,by show R.next≤_;omega,h9⟩
        ·show(ym R.calls _ _).length≤_
         exact Nat.le_trans (e1 _ _) (by omega)
        ·show(R.zv1.eraseP _).length≤_
         exact Nat.le_trans (e3 _) (by omega)
       ·exact h.le (Nat.le_succ j)
theorem zu1 (N:Nat) (w:Int):RB 0 (zce N w):=⟨Nat.le_refl _,Nat.le_refl _,Nat.le_refl _,Nat.le_refl _,Int.le_refl _,Int.le_refl _,Int.le_refl _,Int.le_refl _,fun v hv=>by simp[zce] at hv⟩
theorem RB.rok (h:RB j R) (hj:j≤1000) {T:Tab} {n k:Nat} (hI:Inv n k T) (hs:Sim T R) (hn:n≤1000) (hk:k≤1000):ROk R:=by
 have hN:=hs.s0.N;have hl:=hs.s0.zv0;have hln:=hI.ln;have hw:=hs.s0.W;have hkw:=hI.w;refine⟨by have:=h.lc;omega,by have:=h.lv;omega,by have:=h.lp;omega,by have:=h.lh;omega,by rw[hl];omega,fun x hx=>?_,by rw[hl];exact hN,h.o0,by have:=h.o1;omega,by have:=h.x0;omega,by have:=h.x1;omega,by omega,by omega⟩
 have:=hs.s0.hb x hx;rw[hl];omega
end
section
variable {W : World}
set_option maxRecDepth 100000 in
theorem Vx {va vb:Value} {l:List ID} (ha:Zu W 2 ya va l) (hb:Zu W 2 ya vb l) (hl:l.length≤1000000):Calls Tryz.prog 147 #[va,vb] W fun e w'=>e = .returned (.bool true)∧W.grownBy w' none:=by
 obtain⟨pa,ca,rfl,ha⟩:=ha;obtain⟨pb,cb,rfl,hb⟩:=hb;have HA:=za ha;have HB:=za hb;clear ha hb
 go_enter Tryz.func147,Tryz.ntmps147
 go_wp2
 go_loopw [5] (fun x wr=>∃k:Nat,k≤l.length∧x = .int .i64 k∧W.grownBy wr none) (fun x _=>l.length-(intOf x).toNat)
 case atStart=>exact⟨0,Nat.zero_le _,rfl,zd _⟩
 case round=>
  obtain⟨k,hk,rfl,hg⟩:=hrel;have HG:=za hg
  by_cases hlt:k<l.length
  ·obtain⟨ga,rfl,ea⟩:=HA.out.resolve_left (fun e=>by rw[e] at hlt;simp at hlt)
   obtain⟨gb,rfl,eb⟩:=HB.out.resolve_left (fun e=>by rw[e] at hlt;simp at hlt)
   have fa:wr.cell? ⟨ga,k*2,none⟩=some (.string l[k].key):=hg.cell (ea k hlt 0 _ rfl) (by simp)
   have fa1:wr.cell? ⟨ga,k*2+1,none⟩=some (.int .i64 l[k].zvz):=hg.cell (ea k hlt 1 _ rfl) (by simp)
   have fb:wr.cell? ⟨gb,k*2,none⟩=some (.string l[k].key):=hg.cell (eb k hlt 0 _ rfl) (by simp)
   have fb1:wr.cell? ⟨gb,k*2+1,none⟩=some (.int .i64 l[k].zvz):=hg.cell (eb k hlt 1 _ rfl) (by simp)
   clear ea eb hg;generalize l[k]=z at *;obtain⟨zk,zv⟩:=z;simp only at fa fa1 fb fb1;have hd:(zk.toList != zk.toList)=false:=by simp
   have hd2:(zv != zv)=false:=by simp
   go_wp2
   go_quiet (fail)
   go_wp2
   go_roundw
   case rel=>exact⟨k+1,by omega,by go_num,ze HG.out (zj _ _)⟩
   case measure=>simp[intOf];omega
  ·obtain rfl:k=l.length:=by omega
   clear hg;go_wp2
   go_ret
   exact⟨rfl,HG.out⟩
end
theorem flatI:∀l:List Int,l.flatMap Yl=l.map (Value.int .i64)
 | []=>rfl
 | x :: r=>by simp only[List.flatMap_cons,List.map_cons,flatI r];rfl
theorem zu3 (w:World) (N:Nat) (hN:N≤255):uu (w.alloc (.cells (madeCells #[.int .i64 0] N) 2)) 2 1 Yl (.slice (some ⟨w.heap.size,0,none⟩) N N) (List.replicate N (0:Int)):=by
 unfold uu;rw[List.length_replicate,flatI];refine⟨by simp,.inr ⟨w.heap.size,N,madeCells #[.int .i64 0] N,rfl,Nat.zero_le _,heap_alloc_new w _,Nat.le_refl _,by unfold maxLen;omega,by simp[madeCells],?_⟩⟩
 rw[zg5];simp
theorem zu2 (w:World) (N:Nat) (wi:Int) (hN:N≤255) (bs:Nat→Prop) (hbs:∀k,w.heap.size≤k→bs k) :
  RAt bs ((w.alloc (.cells (madeCells #[.int .i64 0] N) 2)).alloc (.cells #[.int .i64 (N:Int),.int .i64 wi,.int .i64 0,.int .i64 1,.slice (some ⟨w.heap.size,0,none⟩) N N,.slice none 0 0,.slice none 0 0,.slice none 0 0,.slice none 0 0] 52)) (w.heap.size+1) (zce N wi):=by
 have hr:=zu3 w N hN;have hl:(zce N wi).zv0=List.replicate N (0:Int):=rfl;refine⟨.slice (some ⟨w.heap.size,0,none⟩) N N,.slice none 0 0,.slice none 0 0,.slice none 0 0,.slice none 0 0,⟨?_,?_,World.ownsRow_nil _ _ _ _,World.ownsRow_nil _ _ _ _,World.ownsRow_nil _ _ _ _,World.ownsRow_nil _ _ _ _⟩,hbs _ (by omega),fun g hg=>?_,fun g hg=>by simp[Value.ownBlock] at hg,fun g hg=>by simp[Value.ownBlock] at hg,fun g hg=>by simp[Value.ownBlock] at hg,fun g hg=>by simp[Value.ownBlock] at hg⟩
 ·have:=heap_alloc_new (w.alloc (.cells (madeCells #[.int .i64 0] N) 2)) (.cells #[.int .i64 (N:Int),.int .i64 wi,.int .i64 0,.int .i64 1,.slice (some ⟨w.heap.size,0,none⟩) N N,.slice none 0 0,.slice none 0 0,.slice none 0 0,.slice none 0 0] 52)
  simp only[World.size_alloc] at this
  exact this
 ·rw[hl]
  exact hr.grown (zg (zd _) _) (by simp)
 ·simp only[Value.ownBlock,Option.some.injEq] at hg
  subst hg
  exact hbs _ (Nat.le_refl _)
theorem zoa (N:Nat) (w:Int) (h:1≤N):yu N w=max 1 (min (N:Int) w):=by
 unfold yu
 split
 ·omega
 ·split <;> omega
set_option maxRecDepth 100000 in
theorem znk (nodes wi:Int) (N:Nat) (hN:(N:Int)=vm nodes) (w:World) (bs:Nat→Prop) (hbs:∀k,w.heap.size≤k→bs k) :
  Calls Tryz.prog 38 #[.int .i64 nodes,.int .i64 wi] w fun e w'=>∃rb,e = .returned (.pointer (some ⟨rb,0,none⟩))∧RAt bs w' rb (zce N (yu N wi))∧w.grownBy w' none:=by
 have hN1:1≤N:=by unfold vm at hN;split at hN <;> (try split at hN) <;> omega
 have hN2:N≤255:=by unfold vm at hN;split at hN <;> (try split at hN) <;> omega
 have hmk:=run_make_row' (P:=Tryz.prog) 46 2 (.int .i64 0) 8 Tryz.underlying46 zl5 rfl .i64 .i64 N (by omega) (by omega)
 have HN:=za hN;have HBS:=za hbs;clear hN hbs
 go_enter Tryz.func38,Tryz.ntmps38
 go_upto_region 1 with fail
 go_cut [5] (fun s wx=>s = .int .i64 N∧wx=w)
 case first=>
  clear hmk;go_wp2
  all_goals (go_meet;refine⟨?_,rfl⟩;have:=HN.out;unfold vm at this;congr 1;(repeat (split at this)) <;> omega)
 case rest=>
  obtain⟨rfl,rfl⟩:=hcut;go_wp2
  all_goals
   go_ret
   refine⟨wc.heap.size+1,rfl,?_,by repeat (first|exact zd _|exact zc _ _ _|refine zg ?_ _)⟩
   have h:=zu2 wc N (yu N wi) hN2 bs HBS.out;rw[zoa N wi hN1] at h ⊢
   exact h
open Go.RowKit Go.Sf Go.Shelf Go.Maps
structure Ja (n k j:Nat) (L:Tab) (R:yp):Prop where
 inv:Inv n k L
 sim:Sim L R
 rb:RB j R
theorem zb4 {α:Type} [DecidableEq α]:∀(l1 l2:List α),l1.Nodup→(∀x∈l1,x∈l2)→l1.length≤l2.length
 | [],_,_,_=>Nat.zero_le _
 | a :: r,l2,hn,h=>by
  obtain⟨h1,h2⟩:=List.nodup_cons.1 hn;have ha:=h a (by simp)
  have:=zb4 r (l2.erase a) h2 (fun x hx=>(List.mem_erase_of_ne (by rintro rfl;exact h1 hx)).2 (h x (List.mem_cons_of_mem _ hx)))
  rw[List.length_erase_of_mem ha] at this;have:=List.length_pos_of_mem ha;simp only[List.length_cons];omega
section
variable {n k j : Nat} {L : Tab} {R : yp}
theorem Ja.val_mem (h:Ja n k j L R) {p:ByteArray × Val} (hp:p∈L.values):p∈R.vals:=by
 have h1:=vo h.sim.s0.tvn (k:=p.1) (v:=p.2) hp;rw[←h.sim.s0.vals] at h1
 exact yd h1
theorem Ja.vlen (h:Ja n k j L R):L.values.length≤j:=by
 have h1:=zb4 (L.values.map (·.1)) (R.vals.map (·.1)) h.sim.s0.tvn (fun x hx=>by
  obtain⟨p,hp,rfl⟩:=List.mem_map.1 hx
  exact List.mem_map.2 ⟨p,h.val_mem hp,rfl⟩)
 rw[List.length_map,List.length_map] at h1
 exact Nat.le_trans h1 h.rb.lv
theorem Ja.vkeys (h:Ja n k j L R):∀p∈L.values,p.1.size≤maxLen:=fun p hp=>by
 have:=h.rb.ks p (h.val_mem hp);unfold maxLen;omega
theorem Ja.plen (h:Ja n k j L R):L.pending.length≤j:=by
 have h1:=h.inv.pend_len;have h2:=h.rb.x1;have h3:=h.sim.s0.next;omega
theorem zou {w w':World} {v:Value} {l:List Int} (h:zjw w w' v l):Zu w' 1 Yl v l:=by
 have h1:uu w' 3 1 Yl v l:=by
  unfold uu;rw[flatI]
  exact⟨h.1.1,h.1.2.imp id fun ⟨g,cap,cur,hv,_,rest⟩=>⟨g,cap,cur,hv,Nat.zero_le _,rest⟩⟩
 exact h1.lread lenI
theorem Zu.kept {α:Type} {W W':World} {sz:Nat} {enc:α→List Value} {v:Value} {l:List α} (h:Zu W sz enc v l) (hg:W.grownBy W' none):Zu W' sz enc v l:=by
 obtain⟨p,cap,e,h1⟩:=h
 exact⟨p,cap,e,h1.imp id fun ⟨g,e2,h2⟩=>⟨g,e2,fun i hi j u hu=>hg.cell (h2 i hi j u hu) (by simp)⟩⟩
structure zjy (W:World) (tb rb:Nat) (L:Tab) (R:yp):Prop where
 call:∀w,W.grownBy w none→∀m,Calls Tryz.prog 32 #[.pointer (some ⟨tb,0,none⟩),.int .i64 m] w fun e w'=>e = .returned (.agg #[.int .i64 (callV L m).zvy,.int .i64 (callV L m).zvz,.bool (callV L m).done,.int .i64 (callV L m).code])∧w.grownBy w' none
 rcall:∀w,W.grownBy w none→∀m,Calls Tryz.prog 146 #[.pointer (some ⟨rb,0,none⟩),.int .i64 m] w fun e w'=>e = .returned (.agg #[.int .i64 m,.int .i64 (callV L m).zvy,.int .i64 (callV L m).zvz,.bool (callV L m).done,.int .i64 (callV L m).code])∧w.grownBy w' none
 offered:∀w,W.grownBy w none→Calls Tryz.prog 35 #[.pointer (some ⟨tb,0,none⟩)] w fun e w'=>e = .returned (.int .i64 L.offers)∧w.grownBy w' none
 next:∀w,W.grownBy w none→Calls Tryz.prog 31 #[.pointer (some ⟨tb,0,none⟩)] w fun e w'=>e = .returned (.int .i64 L.next)∧w.grownBy w' none
 rc0:W.cell? ⟨rb,0,none⟩=some (.int .i64 R.N)
 rc2:W.cell? ⟨rb,2,none⟩=some (.int .i64 L.offers)
 rc3:W.cell? ⟨rb,3,none⟩=some (.int .i64 L.next)
 pending:∀w,W.grownBy w none→Calls Tryz.prog 33 #[.pointer (some ⟨tb,0,none⟩)] w fun e w'=>∃v,e = .returned v∧Zu w' 2 ya v (Qz R)∧w.grownBy w' none
 rpending:∀w,W.grownBy w none→Calls Tryz.prog 148 #[.pointer (some ⟨rb,0,none⟩)] w fun e w'=>∃v,e = .returned v∧Zu w' 2 ya v (Qz R)∧w.grownBy w' none
 current:∀w,W.grownBy w none→Calls Tryz.prog 42 #[.pointer (some ⟨tb,0,none⟩)] w fun e w'=>∃v,e = .returned v∧Zu w' 2 ya v (uo R)∧w.grownBy w' none
 rcurrent:∀w,W.grownBy w none→Calls Tryz.prog 137 #[.pointer (some ⟨rb,0,none⟩)] w fun e w'=>∃v,e = .returned v∧Zu w' 2 ya v (uo R)∧w.grownBy w' none
 look:∀w,W.grownBy w none→∀s,Calls Tryz.prog 34 #[.pointer (some ⟨tb,0,none⟩),.string s] w fun e w'=>e = .returned (.int .i64 (Go.Proofs.YtjfelfjobeeenaaGreat.look L s))∧w.grownBy w' none
 rlook:∀w,W.grownBy w none→∀s,Calls Tryz.prog 149 #[.pointer (some ⟨rb,0,none⟩),.string s] w fun e w'=>e = .returned (.int .i64 (Go.Proofs.YtjfelfjobeeenaaGreat.look L s))∧w.grownBy w' none
 life:∀w,W.grownBy w none→∀a,Calls Tryz.prog 23 #[.pointer (some ⟨tb,0,none⟩),.int .i64 a] w fun e w'=>e = .returned (.int .i64 (yq L a))∧w.grownBy w' none
 rlive:∀a:Nat,(a:Int)<R.N→∃gL capL len,W.cell? ⟨rb,4,none⟩=some (.slice (some ⟨gL,0,none⟩) len capL)∧W.cell? ⟨gL,a,none⟩=some (.int .i64 (yq L a))∧a<len∧len≤capL∧capL≤9223372036854775807
 missing:∀w,W.grownBy w none→∀a,Calls Tryz.prog 43 #[.pointer (some ⟨tb,0,none⟩),.int .i64 a] w fun e w'=>∃v,e = .returned v∧Zu w' 2 ya v (Ua R a)∧w.grownBy w' none
 rmissing:∀w,W.grownBy w none→∀a,Calls Tryz.prog 150 #[.pointer (some ⟨rb,0,none⟩),.int .i64 a] w fun e w'=>∃v,e = .returned v∧Zu w' 2 ya v (Ua R a)∧w.grownBy w' none
 wanted:∀w,W.grownBy w none→∀s m,Calls Tryz.prog 36 #[.pointer (some ⟨tb,0,none⟩),.agg #[.string s,.int .i64 m]] w fun e w'=>e = .returned (.bool (yl L ⟨s,m⟩))∧w.grownBy w' none
 rwanted:∀w,W.grownBy w none→∀s m,Calls Tryz.prog 115 #[.pointer (some ⟨rb,0,none⟩),.agg #[.string s,.int .i64 m]] w fun e w'=>e = .returned (.bool (yl L ⟨s,m⟩))∧w.grownBy w' none
 holders:∀w,W.grownBy w none→∀s m,Calls Tryz.prog 37 #[.pointer (some ⟨tb,0,none⟩),.agg #[.string s,.int .i64 m]] w fun e w'=>∃v,e = .returned v∧Zu w' 1 Yl v (Qx R ⟨s,m⟩)∧w.grownBy w' none
 rholders:∀w,W.grownBy w none→∀s m,Calls Tryz.prog 138 #[.pointer (some ⟨rb,0,none⟩),.agg #[.string s,.int .i64 m]] w fun e w'=>∃v,e = .returned v∧Zu w' 1 Yl v (Qx R ⟨s,m⟩)∧w.grownBy w' none
 lp:(Qz R).length≤1000000
 lc:(uo R).length≤1000000
 lm:∀a,(Ua R a).length≤1000000
 lh:∀i,(Qx R i).length≤1000000
 n0:0≤R.N
 n1:R.N≤1000
 out:∀a,a<0∨R.N≤a→yq L a=0
theorem telling {bs cs:Nat→Prop} {W:World} {tb rb:Nat} (hT:At bs W tb L) (hM:RAt cs W rb R) (h:Ja n k j L R) (hn:n≤1000) (hk:k≤1000) (hj:j≤1000):zjy W tb rb L R:=by
 have hN:R.N=n:=by rw[h.sim.s0.N,h.inv.ln]
 have ok:=h.rb.rok hj h.inv h.sim hn hk;have hll:L.zv0.length≤9223372036854775807:=by rw[h.inv.ln];omega
 have hvl:L.values.length≤1000000:=by have:=h.vlen;omega
 have hpl:L.pending.length≤1000000:=by have:=h.plen;omega
 have hrc:(uo R).length≤1000000:=Nat.le_trans (zm9 R) (by have:=h.rb.lv;omega)
 refine { call:=?_,rcall:=?_,offered:=?_,next:=?_,rc0:=hM.c0,rc2:=?_,rc3:=?_,pending:=?_,rpending:=?_,current:=?_,rcurrent:=?_,look:=?_,rlook:=?_,life:=?_,rlive:=?_,missing:=?_,rmissing:=?_,wanted:=?_,rwanted:=?_,holders:=?_,rholders:=?_,lp:=?_,lc:=hrc,lm:=?_,lh:=?_,n0:=by omega,n1:=by omega,out:=fun a ha=>by unfold yq;rw[if_pos (by have:=h.inv.ln;omega)] }
 ·exact fun w hg m=>zj2 (hT.grown hg) m
 ·intro w hg m
  have:=zhh (hM.grown hg) m;rw[h.sim.s0.callV] at this
  exact this
 ·intro w hg
  obtain⟨T,h1,h2,h3⟩:=(hT.grown hg).ex;have hq:=zfh h1;have e:T.offers=L.offers:=by rw[←h2];rfl
  rw[e] at hq
  exact hq
 ·exact fun w hg=>zkq (hT.grown hg)
 ·rw[hM.c2,h.sim.s0.offers]
 ·rw[hM.c3,h.sim.s0.next]
 ·intro w hg
  refine(zhf (hT.grown hg) hpl).mono ?_;rintro e w' ⟨v,l,h1,h2,h3⟩;have hl:=zr4 h.inv h.sim h2.2.1 h2.2.2.1;subst hl;have h4:uu w' 54 2 ya v (Qz R):=Vv h2.1 (Nat.zero_le _)
  exact⟨v,h1,h4.lread jq,h3⟩
 ·intro w hg
  refine(zk4 (hM.grown hg) (by have:=h.rb.lp;omega)).mono ?_
  rintro e w' ⟨v,h1,h2⟩
  exact⟨v,h1,h2.row.lread jq,h2.grown⟩
 ·intro w hg
  refine(zgk (hT.grown hg) h.vkeys hvl).mono ?_;rintro e w' ⟨v,h1,h2,h3⟩;rw[zlo h.sim] at h2;have h4:uu w' 54 2 ya v (uo R):=Vv h2 (Nat.zero_le _)
  exact⟨v,h1,h4.lread jq,h3⟩
 ·intro w hg
  refine(zdq (hM.grown hg) (by have:=h.rb.lv;omega)).mono ?_
  rintro e w' ⟨v,h1,h2⟩
  exact⟨v,h1,h2.row.lread jq,h2.grown⟩
 ·exact fun w hg s=>zkm (hT.grown hg) s
 ·intro w hg s
  obtain⟨_,_,_,_,_,h1⟩:=(hM.grown hg).mem;have:=zho h1 s;rw[h.sim.s0.look] at this
  exact this
 ·exact fun w hg a=>zkl (hT.grown hg) a hll
 ·intro a ha
  have hal:a<R.zv0.length:=by rw[h.sim.s0.zv0,h.inv.ln];omega
  obtain⟨gL,capL,h1,h2,h3,h4,h5⟩:=hM.live hal;refine⟨gL,capL,_,h1,?_,hal,h4,h5⟩;rw[h2];have:=h.sim.s0.life (a:=(a:Int)) (by omega) ha
  rw[←this]
  rfl
 ·intro w hg a
  refine(zoz (hT.grown hg) a hll h.vkeys hvl).mono ?_;rw[zro h.sim]
  exact fun e w' h=>h
 ·intro w hg a
  refine(zk3 (hM.grown hg) a (by have:=h.rb.lv;omega) ok.nn ok.ll).mono ?_
  rintro e w' ⟨v,h1,h2⟩
  exact⟨v,h1,h2.row.lread jq,h2.grown⟩
 ·exact fun w hg s m=>zex (hT.grown hg) ⟨s,m⟩
 ·intro w hg s m
  have:=Vl (hM.grown hg) ⟨s,m⟩;rw[h.sim.s0.wanted] at this
  exact this
 ·intro w hg s m
  refine(zcq (hT.grown hg) ⟨s,m⟩ (h.inv.fits (by omega) _)).mono ?_
  rintro e w' ⟨v,h1,h2⟩;rw[zra h.inv h.sim] at h2
  exact⟨v,h1,zou h2,h2.2.2⟩
 ·intro w hg s m
  refine(zk1 (hM.grown hg) ⟨s,m⟩ (by omega) (by omega)).mono ?_
  rintro e w' ⟨v,h1,h2⟩
  exact⟨v,h1,h2.row.lread lenI,h2.grown⟩
 ·unfold Qz
  rw[zbw,List.length_map];have:=h.rb.lp;omega
 ·intro a
  unfold Ua
  split
  ·simp
  ·exact Nat.le_trans (List.length_filter_le _ _) hrc
 ·intro i
  unfold Qx;refine Nat.le_trans (List.length_filter_le _ _) ?_;rw[zbu];omega
end
end Go.Proofs.YtjfelfjobeeenaaGreat
