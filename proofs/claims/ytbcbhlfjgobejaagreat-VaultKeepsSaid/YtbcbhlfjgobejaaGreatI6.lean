/- A disk in memory; New, Blocks, Off, Steps, Fail, Crash, may: the walks. Conditions: none, or as the theorems say. -/
import Derived.Test.YtbcbhlfjgobejaaGreatI5
import Derived.Deep.DeepCutAuto
import Derived.Deep.RegionLaw
import Derived.Test.YtbcbhlfjgobejaaGreatI1
import Derived.Laws.Externs
import Derived.Deep.RegionHeld3
set_option linter.unusedSimpArgs false
set_option linter.unusedVariables false
namespace Go.Proofs.YtbcbhlfjgobejaaGreat
set_option maxHeartbeats 200000000
open Go.RowKit Go.Sf
def ze1 (m:List (Int × List Int)):Prop:=∀p∈m,p.2.length=256∧BL p.2
structure DAt (own:Nat→Prop) (W:World) (db sb nb:Nat) (lv:Value) (d:Dk):Prop where
 box:W.heap[db]? = some (.cells #[.int .i64 d.n,.map (some sb),.map (some nb),lv,.int .i64 (wrap64 d.steps),.int .i64 d.well,.bool d.off] 167 (0,0))
 st:yg W sb (Value.int .i64) xz d.st
 now:yg W nb (Value.int .i64) xz d.now
 late:W.ownsRow 0 176 257 lv d.late.length (d.late.flatMap zp)
 sn:sb≠nb
 odb:¬own db
 osb:¬own sb
 onb:¬own nb
 olv:∀g,lv.ownBlock=some g→¬own g
 lt:∀k,own k→k<W.heap.size
 n:d.n≤4096
 w0 : -1≤d.well
 w1:d.well<9223372036854775808
 bst:ze1 d.st
 bnow:ze1 d.now
 blate:ze1 d.late
 few:d.late.length≤1000000
structure vl (own:Nat→Prop) (W:World) (db:Nat) (d:Dk):Prop where
 ex:∃sb nb lv,DAt own W db sb nb lv d
def ug (own:Nat→Prop) (W:World) (db:Nat) (d:Dk) (v:Value) (e:Ending) (w':World):Prop:=e = .returned v∧vl own w' db d∧zq (fun k=>¬own k) W w'
theorem own_lt {W:World} {base n size:Nat} {e:TypeId} {v:Value} {xs:List Value} (h:W.ownsRow base e size v n xs) {g:Nat} (hg:v.ownBlock=some g):g<W.heap.size:=(h.lt g hg).2
section
variable {own : Nat → Prop} {W W' : World} {db sb nb : Nat} {lv : Value} {d : Dk}
theorem DAt.dlt (h:DAt own W db sb nb lv d):db<W.heap.size:=(Array.getElem?_eq_some_iff.1 h.box).1
theorem DAt.kept (h:DAt own W db sb nb lv d) (hg:W.grownBy W' none):DAt own W' db sb nb lv d where
 box:=(hg.block db h.dlt (by simp)).trans h.box
 st:=h.st.kept hg (by simp)
 now:=h.now.kept hg (by simp)
 late:=h.late.kept hg (by
  rcases h2:lv.ownBlock with _|k
  ·exact Or.inl rfl
  ·exact Or.inr (by simp))
 sn:=h.sn
 odb:=h.odb
 osb:=h.osb
 onb:=h.onb
 olv:=h.olv
 lt:=fun k hk=>Nat.lt_of_lt_of_le (h.lt k hk) hg.size
 n:=h.n
 w0:=h.w0
 w1:=h.w1
 bst:=h.bst
 bnow:=h.bnow
 blate:=h.blate
 few:=h.few
theorem vl.kept (h:vl own W db d) (hg:W.grownBy W' none):vl own W' db d:=by
 obtain⟨sb,nb,lv,h⟩:=h.ex
 exact⟨sb,nb,lv,h.kept hg⟩
theorem DAt.less (h:DAt own W db sb nb lv d) {own':Nat→Prop} (hs:∀k,own' k→own k):DAt own' W db sb nb lv d:=
 ⟨h.box,h.st,h.now,h.late,h.sn,fun e=>h.odb (hs _ e),fun e=>h.osb (hs _ e),fun e=>h.onb (hs _ e),fun g hg e=>h.olv g hg (hs _ e),fun k hk=>h.lt k (hs k hk),h.n,h.w0,h.w1,h.bst,h.bnow,h.blate,h.few⟩
theorem vl.less (h:vl own W db d) {own':Nat→Prop} (hs:∀k,own' k→own k):vl own' W db d:=by
 obtain⟨sb,nb,lv,h⟩:=h.ex
 exact⟨sb,nb,lv,h.less hs⟩
theorem vl.more (h:vl own W db d) (hg:W.grownBy W' none) {own':Nat→Prop} (hs:∀k,own' k→own k∨W.heap.size≤k) (hl:∀k,own' k→k<W'.heap.size):vl own' W' db d:=by
 obtain⟨sb,nb,lv,h⟩:=h.ex;have h':=h.kept hg;have a1:=h.dlt;have a2:=h.st.lt;have a3:=h.now.lt;refine⟨sb,nb,lv,h'.box,h'.st,h'.now,h'.late,h'.sn,fun e=>?_,fun e=>?_,fun e=>?_,fun g hg2 e=>?_,hl,h.n,h.w0,h.w1,h.bst,h.bnow,h.blate,h.few⟩
 ·rcases hs _ e with e|e
  ·exact h.odb e
  ·omega
 ·rcases hs _ e with e|e
  ·exact h.osb e
  ·omega
 ·rcases hs _ e with e|e
  ·exact h.onb e
  ·omega
 ·have:=own_lt h.late hg2
  rcases hs _ e with e|e
  ·exact h.olv g hg2 e
  ·omega
theorem vl.dlt (h:vl own W db d):db<W.heap.size:=by
 obtain⟨sb,nb,lv,h⟩:=h.ex
 exact h.dlt
theorem vl.own_lt (h:vl own W db d) {k:Nat} (hk:own k):k<W.heap.size:=by
 obtain⟨sb,nb,lv,h⟩:=h.ex
 exact h.lt k hk
theorem DAt.cells (h:DAt own W db sb nb lv d):W.cell? ⟨db,0,none⟩=some (.int .i64 d.n)∧W.cell? ⟨db,1,none⟩=some (.map (some sb))∧W.cell? ⟨db,2,none⟩=some (.map (some nb))∧W.cell? ⟨db,3,none⟩=some lv∧W.cell? ⟨db,4,none⟩=some (.int .i64 (wrap64 d.steps))∧W.cell? ⟨db,5,none⟩=some (.int .i64 d.well)∧W.cell? ⟨db,6,none⟩=some (.bool d.off)∧∀i,W.frozen? ⟨db,i,none⟩=false:=by
 have hb:=h.box;refine⟨?_,?_,?_,?_,?_,?_,?_,fun i=>?_⟩ <;> simp[World.cell?,World.frozen?,hb]
theorem DAt.set (h:DAt own W db sb nb lv d) (i:Nat) (v:Value) (d':Dk) (hb:(#[.int .i64 d.n,.map (some sb),.map (some nb),lv,.int .i64 (wrap64 d.steps),.int .i64 d.well,.bool d.off]:Array Value).setIfInBounds i v = #[.int .i64 d'.n,.map (some sb),.map (some nb),lv,.int .i64 (wrap64 d'.steps),.int .i64 d'.well,.bool d'.off])
  (e1:d'.st=d.st) (e2:d'.now=d.now) (e3:d'.late=d.late) (e4:d'.n=d.n) (e5 : -1≤d'.well) (e6:d'.well<9223372036854775808):DAt own (W.setCell ⟨db,i,none⟩ v) db sb nb lv d':=by
 have hs:=yb W db i v;have hx:=h.box;have h1:sb≠db:=fun e=>by obtain⟨es,c,hb2,_⟩:=h.st;rw[e,hx] at hb2;cases hb2
 have h2:nb≠db:=fun e=>by obtain⟨es,c,hb2,_⟩:=h.now;rw[e,hx] at hb2;cases hb2
 refine⟨?_,by rw[e1];exact h.st.kept hs (by simp;exact h1),by rw[e2];exact h.now.kept hs (by simp;exact h2),?_,h.sn,h.odb,h.osb,h.onb,h.olv,fun k hk=>Nat.lt_of_lt_of_le (h.lt k hk) hs.size,by rw[e4];exact h.n,e5,e6,by rw[e1];exact h.bst,by rw[e2];exact h.bnow,by rw[e3];exact h.blate,by rw[e3];exact h.few⟩
 ·simp only[World.setCell,Array.getElem?_modify,hx,if_true,Option.map_some]
  rw[hb]
  rfl
 ·rw[e3]
  refine h.late.kept hs ?_
  rcases h3:lv.ownBlock with _|k
  ·exact Or.inl rfl
  ·right
   intro e;simp at e
   rcases h.late.2 with ⟨e4,_⟩|⟨b,c,cur,e4,_,hb2,_⟩
   ·rw[e4] at h3;simp[Value.ownBlock] at h3
   ·rw[e4] at h3;simp[Value.ownBlock] at h3
    subst h3;subst e;rw[hx] at hb2
    cases hb2
theorem jh (h:DAt own W db sb nb lv d) (i:Nat) (v:Value):zq (fun k=>¬own k) W (W.setCell ⟨db,i,none⟩ v):=
 (yt W db i v).mono fun k hk ho=>h.odb (hk ▸ ho)
set_option maxRecDepth 100000 in
theorem zi2 (h:vl own W db d):Calls Tryz.prog 81 #[.pointer (some ⟨db,0,none⟩)] W fun e w'=>e = .returned (.int .i64 d.n)∧w'=W:=by
 obtain⟨sb,nb,lv,h⟩:=h.ex;obtain⟨c0,c1,c2,c3,c4,c5,c6,y⟩:=h.cells;clear h
 go_enter Tryz.func81,Tryz.ntmps81
 go_wp2
 go_ret
 exact⟨rfl,rfl⟩
set_option maxRecDepth 100000 in
theorem doff (h:vl own W db d):Calls Tryz.prog 33 #[.pointer (some ⟨db,0,none⟩)] W fun e w'=>e = .returned (.bool d.off)∧w'=W:=by
 obtain⟨sb,nb,lv,h⟩:=h.ex;obtain⟨c0,c1,c2,c3,c4,c5,c6,y⟩:=h.cells;clear h
 go_enter Tryz.func33,Tryz.ntmps33
 go_wp2
 go_ret
 exact⟨rfl,rfl⟩
set_option maxRecDepth 100000 in
theorem dsteps (h:vl own W db d):Calls Tryz.prog 113 #[.pointer (some ⟨db,0,none⟩)] W fun e w'=>e = .returned (.int .i64 (wrap64 d.steps))∧w'=W:=by
 obtain⟨sb,nb,lv,h⟩:=h.ex;obtain⟨c0,c1,c2,c3,c4,c5,c6,y⟩:=h.cells;clear h
 go_enter Tryz.func113,Tryz.ntmps113
 go_wp2
 go_ret
 exact⟨rfl,rfl⟩
def Dk.failed (d:Dk) (n:Int):Dk:={ d with well:=max (-1) n }
set_option maxRecDepth 100000 in
theorem dfail (h:vl own W db d) (n:Int) (hn:n<9223372036854775808):Calls Tryz.prog 28 #[.pointer (some ⟨db,0,none⟩),.int .i64 n] W (ug own W db (d.failed n) (.tuple #[])):=by
 obtain⟨sb,nb,lv,h⟩:=h.ex;obtain⟨c0,c1,c2,c3,c4,c5,c6,y⟩:=h.cells;have HS:Hid (∀m,m=max (-1) n→DAt own (W.setCell ⟨db,5,none⟩ (.int .i64 m)) db sb nb lv (d.failed n)∧zq (fun k=>¬own k) W (W.setCell ⟨db,5,none⟩ (.int .i64 m))):=(fun m hm=>by
  subst hm
  exact⟨h.set 5 _ (d.failed n) rfl rfl rfl rfl rfl (by show -1≤max (-1) n;omega) (by show max (-1) n<_;omega),jh h _ _⟩)
 clear h
 go_enter Tryz.func28,Tryz.ntmps28
 go_wp2
 all_goals first|go_end0|refine bodyPost_ret (results_none rfl _ _ _) rfl ?_
 all_goals exact⟨rfl,⟨_,_,_,(HS.out _ (by omega)).1⟩,(HS.out _ (by omega)).2⟩
def Dk.crashed (d:Dk):Dk:={ d with off:=true,well:=-1 }
set_option maxRecDepth 100000 in
theorem zho (h:vl own W db d):Calls Tryz.prog 41 #[.pointer (some ⟨db,0,none⟩)] W (ug own W db d.crashed (.tuple #[])):=by
 obtain⟨sb,nb,lv,h⟩:=h.ex;obtain⟨c0,c1,c2,c3,c4,c5,c6,y⟩:=h.cells;have h1:=h.set 6 (.bool true) { d with off:=true } rfl rfl rfl rfl rfl h.w0 h.w1
 have h2:=h1.set 5 (.int .i64 (-1)) d.crashed rfl rfl rfl rfl rfl (by show(-1:Int)≤-1;omega) (by show(-1:Int)<_;omega)
 have HS:=zd (And.intro h2 ((jh h 6 (.bool true)).trans (jh h1 5 (.int .i64 (-1)))));clear h h1 h2
 go_enter Tryz.func41,Tryz.ntmps41
 go_wp2
 first|go_end0|refine bodyPost_ret (results_none rfl _ _ _) rfl ?_
 exact⟨rfl,⟨_,_,_,HS.out.1⟩,HS.out.2⟩
def Dk.mayE (d:Dk) (i:Int) (n:Nat):Int:=if d.off=true then 180 else if i<0∨(d.n:Int)≤i then 2 else if 256<n then 3 else 0
set_option maxRecDepth 100000 in
theorem dmay (h:vl own W db d) (i:Int) (p:Option Addr) (n c:Nat):Calls Tryz.prog 100 #[.pointer (some ⟨db,0,none⟩),.int .i64 i,.slice p n c] W fun e w'=>e = .returned (.int .i64 (d.mayE i n))∧w'=W:=by
 obtain⟨sb,nb,lv,h⟩:=h.ex;obtain⟨c0,c1,c2,c3,c4,c5,c6,y⟩:=h.cells;clear h;unfold Dk.mayE
 cases ho:d.off
 ·rw[ho] at c6
  by_cases hi:i<0
  ·go_enter Tryz.func100,Tryz.ntmps100
   go_wp2
   go_ret
   exact⟨by simp[hi],rfl⟩
  ·by_cases hn:(d.n:Int)≤i
   ·go_enter Tryz.func100,Tryz.ntmps100
    go_wp2
    go_ret
    exact⟨by simp[hn],rfl⟩
   ·by_cases hc:256<n
    ·go_enter Tryz.func100,Tryz.ntmps100
     go_wp2
     go_ret
     exact⟨by simp[hi,hn,hc],rfl⟩
    ·go_enter Tryz.func100,Tryz.ntmps100
     go_wp2
     go_ret
     exact⟨by simp[hi,hn,hc],rfl⟩
 ·rw[ho] at c6
  go_enter Tryz.func100,Tryz.ntmps100
  go_wp2
  go_ret
  exact⟨by simp,rfl⟩
end
def Dk.new (n:Int):Dk:=⟨(min 4096 (max 0 n)).toNat,[],[],[],0,-1,false⟩
theorem DAt.fresh (W:World) (n:Int) (own:Nat→Prop) (ho:∀k,own k→k<W.heap.size) (m:Int) (hm:m=min 4096 (max 0 n)) :
  DAt own (((W.alloc (.map #[] 0)).alloc (.map #[] 0)).alloc (.cells #[.int .i64 m,.map (some W.heap.size),.map (some (W.heap.size+1)),.slice none 0 0,.int .i64 0,.int .i64 (-1),.bool false] 167)) (W.heap.size+2) W.heap.size (W.heap.size+1) (.slice none 0 0) (Dk.new n):=by
 have s1:(W.alloc (.map #[] 0)).heap.size=W.heap.size+1:=by simp
 have s2:((W.alloc (.map #[] 0)).alloc (.map #[] 0)).heap.size=W.heap.size+2:=by simp
 have hm2:((((min 4096 (max 0 n)).toNat:Nat):Int))=m:=by omega
 have hb:=heap_alloc_new ((W.alloc (.map #[] 0)).alloc (.map #[] 0)) (.cells #[.int .i64 m,.map (some W.heap.size),.map (some (W.heap.size+1)),.slice none 0 0,.int .i64 0,.int .i64 (-1),.bool false] 167);rw[s2] at hb;have m1:yg (((W.alloc (.map #[] 0)).alloc (.map #[] 0)).alloc (.cells #[.int .i64 m,.map (some W.heap.size),.map (some (W.heap.size+1)),.slice none 0 0,.int .i64 0,.int .i64 (-1),.bool false] 167)) W.heap.size (Value.int .i64) xz ([]:List (Int × List Int)):=((Jv W (Value.int .i64) xz).alloc _).alloc _;have m2:yg (((W.alloc (.map #[] 0)).alloc (.map #[] 0)).alloc (.cells #[.int .i64 m,.map (some W.heap.size),.map (some (W.heap.size+1)),.slice none 0 0,.int .i64 0,.int .i64 (-1),.bool false] 167)) (W.heap.size+1) (Value.int .i64) xz ([]:List (Int × List Int)):=by
  have:=(Jv (W.alloc (.map #[] 0)) (Value.int .i64) xz).alloc (.cells #[.int .i64 m,.map (some W.heap.size),.map (some (W.heap.size+1)),.slice none 0 0,.int .i64 0,.int .i64 (-1),.bool false] 167)
  rwa [s1] at this
 refine⟨?_,m1,m2,World.ownsRow_nil _ _ _ _,by omega,fun e=>by have:=ho _ e;omega,fun e=>by have:=ho _ e;omega,fun e=>by have:=ho _ e;omega,fun g hg=>by simp[Value.ownBlock] at hg,fun k hk=>by have:=ho k hk;simp;omega,?_,?_,?_,fun p hp=>by simp[Dk.new] at hp,fun p hp=>by simp[Dk.new] at hp,fun p hp=>by simp[Dk.new] at hp,by simp[Dk.new]⟩
 ·rw[hb]
  simp only[Dk.new,hm2,show wrap64 0=0 from by unfold wrap64;omega]
 ·show(min 4096 (max 0 n)).toNat≤4096;omega
 ·show(-1:Int)≤-1;omega
 ·show(-1:Int)<_;omega
set_option maxRecDepth 100000 in
theorem dnew (n:Int) (W:World):Calls Tryz.prog 19 #[.int .i64 n] W fun e w'=>∃db,e = .returned (.pointer (some ⟨db,0,none⟩))∧W.grownBy w' none∧W.heap.size≤db∧∀own:Nat→Prop,(∀k,own k→k<W.heap.size)→vl own w' db (Dk.new n):=by
 have hmm:=@run_makeMap Tryz.prog
 go_enter Tryz.func19,Tryz.ntmps19
 go_wp2
 all_goals go_ret
 all_goals refine⟨_,rfl,?_,?_,fun own ho=>⟨_,_,_,DAt.fresh W n own ho _ ?_⟩⟩
 all_goals first
  | omega
  | (simp;done)
  | (repeat (first|exact zm _|refine zu ?_ _))
@[go_sem] theorem eqlMapNil (b:Nat) (w:World):(binOp .eql 164 (.map (some b)) (.map none)).run Tryz.prog w = .ok (.bool false) w:=by kernel_rfl
@[go_sem] theorem asMapB (v:Value) (w:World):(Instr.typeAssert (.iface 164 v) 20 164 false).run Tryz.prog w = .ok v w:=by kernel_rfl
theorem zks {w:World} {r:Nat} {es:Array MapEntry} {clock:Nat} (t:TypeId) (hb:w.heap[r]? = some (.map es clock)) :
  (Extern.MapsClone.clone #[.iface t (.map (some r))]).run Tryz.prog w = .ok (.iface t (.map (some w.heap.size))) (w.alloc (.map es clock)):=by
 have e:Extern.MapsClone.clone #[.iface t (.map (some r))]=(getObj r >>= fun o=>match o with
   | .map entries clock=>(newObj (.map entries clock) >>= fun n=>pure (.iface t (.map (some n))))
   | _ => stuck "maps.clone: a map expected") := rfl
 rw[e];simp[MapKept.run_getObj_map hb,Result.andThen,go_sem]
section
variable {own : Nat → Prop} {W W' : World} {db sb nb : Nat} {lv : Value} {d : Dk}
set_option maxRecDepth 100000 in
theorem zmf {b:Nat} {m:List (Int × List Int)} (h:yg W b (Value.int .i64) xz m):Calls Tryz.prog 104 #[.map (some b)] W fun e w'=>e = .returned (.map (some W.heap.size))∧yg w' W.heap.size (Value.int .i64) xz m∧W.grownBy w' none∧W.heap.size<w'.heap.size:=by
 obtain⟨es,clock,hb,hs,he⟩:=h;have HX:Hid (yg (W.alloc (.map es clock)) W.heap.size (Value.int .i64) xz m):=(show yg _ _ _ _ _ from ⟨es,clock,(MapKept.heap_alloc W _).1,hs,he⟩)
 clear hs he;have hc:=fun t=>zks t hb
 go_enter Tryz.func104,Tryz.ntmps104
 go_wp2;rw[run_callFunc_extern Tryz.func176 (by kernel_rfl) (by kernel_rfl) (by kernel_rfl) (e:=Extern.MapsClone.clone) (by kernel_rfl),hc]
 simp only[Result.andThen];rw[Oper.upon_value];go_wp2
 go_ret
 exact⟨rfl,HX.out,zg _ _ _,by simp⟩
theorem yw {w:World} {b i b2 j:Nat} {v u:Value} (h:b2≠b∨j≠i) (hc:w.cell? ⟨b2,j,none⟩=some u):(w.setCell ⟨b,i,none⟩ v).cell? ⟨b2,j,none⟩=some u:=by
 by_cases hb:b2=b
 ·subst hb
  have hj:j≠i:=h.resolve_left (fun e=>e rfl)
  rw[←hc];simp only[World.cell?,World.setCell,Array.getElem?_modify,if_true]
  cases w.heap[b2]? with
  | none=>rfl
  | some o=>cases o <;> simp[Array.getElem?_setIfInBounds,Ne.symm hj]
 ·rw[World.cell?_setCell_far _ _ _ _ (show b≠b2 from fun e=>hb e.symm)];exact hc
def Dk.settled (d:Dk):Dk:={ d with st:=d.now,late:=[] }
theorem DAt.cloned (h:DAt own W db sb nb lv d) {w1:World} {b:Nat} (hm:yg w1 b (Value.int .i64) xz d.now) (hg:W.grownBy w1 none) (hb:W.heap.size≤b) :
  DAt own ((w1.setCell ⟨db,1,none⟩ (.map (some b))).setCell ⟨db,3,none⟩ (.slice none 0 0)) db b nb (.slice none 0 0) d.settled∧zq (fun k=>¬own k) W ((w1.setCell ⟨db,1,none⟩ (.map (some b))).setCell ⟨db,3,none⟩ (.slice none 0 0)):=by
 have h1:=h.kept hg;have hs1:=yb w1 db 1 (.map (some b));have hs2:=yb (w1.setCell ⟨db,1,none⟩ (.map (some b))) db 3 (.slice none 0 0);have hx:=h1.box;have hn:nb≠db:=fun e=>by obtain⟨es,c,hb2,_⟩:=h1.now;rw[e,hx] at hb2;cases hb2
 have hbd:b≠db:=by have:=h.dlt;omega
 have hbn:b≠nb:=by have:=h.now.lt;omega
 have ht1:=(yt w1 db 1 (.map (some b))).mono (cs:=fun k=>¬own k) (fun k hk ho=>h.odb (hk ▸ ho))
 have ht2:=(yt (w1.setCell ⟨db,1,none⟩ (.map (some b))) db 3 (.slice none 0 0)).mono (cs:=fun k=>¬own k) (fun k hk ho=>h.odb (hk ▸ ho))
 refine⟨⟨?_,((hm.kept hs1 (by simp;exact hbd)).kept hs2 (by simp;exact hbd)),((h1.now.kept hs1 (by simp;exact hn)).kept hs2 (by simp;exact hn)),World.ownsRow_nil _ _ _ _,hbn,h.odb,fun e=>by have:=h.lt _ e;omega,h.onb,fun g hg=>by simp[Value.ownBlock] at hg,fun k hk=>Nat.lt_of_lt_of_le (h1.lt k hk) (Nat.le_trans hs1.size hs2.size),h.n,h.w0,h.w1,h.bnow,h.bnow,fun p hp=>by simp[Dk.settled] at hp,by simp[Dk.settled]⟩,vc hg (ht1.trans ht2)⟩
 simp[World.setCell,Array.getElem?_modify,hx,Dk.settled]
set_option maxRecDepth 100000 in
theorem dsync1 {cb:Nat} (h:DAt own W db sb nb lv d) (hcb:W.cell? ⟨cb,0,none⟩=some (.pointer (some ⟨db,0,none⟩))) (hne:db≠cb):Calls Tryz.prog 103 #[.pointer (some ⟨cb,0,none⟩)] W (ug own W db d.settled (.tuple #[])):=by
 obtain⟨c0,c1,c2,c3,c4,c5,c6,y⟩:=h.cells;have HC:Hid (Calls Tryz.prog 104 #[.map (some nb)] W.drew fun e w'=>e = .returned (.map (some W.heap.size))∧yg w' W.heap.size (Value.int .i64) xz d.now∧W.grownBy w' none∧W.heap.size<w'.heap.size):=((zmf (W:=W.drew) h.now).mono fun e w' ⟨a,b,c,d⟩=>⟨a,b,⟨c.os,c.tape,c.output,c.size,c.block⟩,d⟩)
 go_enter Tryz.func103,Tryz.ntmps103
 refine wp_region_held_drew (S:=fun w':World=>w'.cell? ⟨cb,0,none⟩=some (.pointer (some ⟨db,0,none⟩))∧w'.cell? ⟨db,2,none⟩=some (.map (some nb))) (by kernel_rfl) ⟨hcb,c2⟩ (fun hHeld=>?_)
 refine tk (i:=0) (oi:=⟨some 1,Op.load 28 (Operand.tmp 0),_,_,_,none⟩) (v:=?_) rfl hHeld ?_ ?_;rotate_left
 ·rintro w ⟨s1,s2⟩;go_simp;try with_reducible rfl
 (try simp only[Act.put,za,zb,zc])
 refine tk (i:=1) (oi:=⟨some 2,Op.load 28 (Operand.tmp 0),_,_,_,none⟩) (v:=?_) rfl hHeld ?_ ?_;rotate_left
 ·rintro w ⟨s1,s2⟩;go_simp;try with_reducible rfl
 (try simp only[Act.put,za,zb,zc])
 refine tk (i:=2) (oi:=⟨some 3,Op.load 28 (Operand.tmp 0),_,_,_,none⟩) (v:=?_) rfl hHeld ?_ ?_;rotate_left
 ·rintro w ⟨s1,s2⟩;go_simp;try with_reducible rfl
 (try simp only[Act.put,za,zb,zc])
 refine tk (i:=3) (oi:=⟨some 4,Op.nilCheck (Operand.tmp 3),_,_,_,none⟩) (v:=?_) rfl hHeld ?_ ?_;rotate_left
 ·rintro w ⟨s1,s2⟩;go_simp;try with_reducible rfl
 (try simp only[Act.put,za,zb,zc])
 refine tk (i:=4) (oi:=⟨some 5,Op.fieldAddr 167 (Operand.tmp 4) 2,_,_,_,none⟩) (v:=?_) rfl hHeld ?_ ?_;rotate_left
 ·rintro w ⟨s1,s2⟩;go_simp;try with_reducible rfl
 (try simp only[Act.put,za,zb,zc])
 refine tk (i:=5) (oi:=⟨some 6,Op.load 164 (Operand.tmp 5),_,_,_,none⟩) (v:=?_) rfl hHeld ?_ ?_;rotate_left
 ·rintro w ⟨s1,s2⟩;go_simp;try with_reducible rfl
 (try simp only[Act.put,za,zb,zc])
 refine wpAnyH_ready (rs:=[6]) (by kernel_rfl) (by simp) ?_
 refine AllReadyH.cons (o:=⟨some 7,Op.call { callee:=Callee.value (Operand.func 104),args:=#[Operand.tmp 6],argTypes:=#[164] },_,_,_,none⟩) rfl (fun K hK=>?_) AllReadyH.nil
 go_simp
 go_at_call 104
 refine HC.out.mono ?_;rintro e w1 ⟨rfl,hm,hg,-⟩;have HQ:=zd (h.cloned hm hg (Nat.le_refl _));have b1:(w1.cell? ⟨db,1,none⟩)=some (.map (some sb)):=hg.cell c1 (by simp)
 have b3:(w1.cell? ⟨db,3,none⟩)=some lv:=hg.cell c3 (by simp)
 have y1:∀i,w1.frozen? ⟨db,i,none⟩=false:=fun i=>by have hb:=(hg.block db h.dlt (by simp)).trans h.box;simp[World.frozen?,hb]
 have s1:w1.cell? ⟨cb,0,none⟩=some (.pointer (some ⟨db,0,none⟩)):=hg.cell hcb (by simp)
 have s2:w1.cell? ⟨db,2,none⟩=some (.map (some nb)):=hg.cell c2 (by simp)
 clear hm hg;refine hK.out _ _ ⟨s1,s2⟩ (fun hHeld=>?_)
 clear hK K
 (try simp only[Act.put,za,zb,zc])
 refine tk (i:=7) (oi:=⟨some 8,Op.nilCheck (Operand.tmp 1),_,_,_,none⟩) (v:=?_) rfl hHeld ?_ ?_;rotate_left
 ·rintro w ⟨-,-⟩;go_simp;try with_reducible rfl
 (try simp only[Act.put,za,zb,zc])
 refine tk (i:=8) (oi:=⟨some 9,Op.fieldAddr 167 (Operand.tmp 8) 1,_,_,_,none⟩) (v:=?_) rfl hHeld ?_ ?_;rotate_left
 ·rintro w ⟨-,-⟩;go_simp;try with_reducible rfl
 (try simp only[Act.put,za,zb,zc])
 refine wpAnyH_ready (rs:=[9]) (by kernel_rfl) (by simp) ?_
 refine AllReadyH.cons (o:=⟨none,Op.store 164 (Operand.tmp 9) (Operand.tmp 7),_,_,_,none⟩) rfl (fun K hK=>?_) AllReadyH.nil
 go_simp
 refine hK.out _ _ ⟨yw (Or.inl (Ne.symm hne)) hHeld.1,yw (Or.inr (by decide)) hHeld.2⟩ (fun hHeld=>?_)
 clear hK K
 (try simp only[Act.put,za,zb,zc])
 refine tk (i:=10) (oi:=⟨some 10,Op.nilCheck (Operand.tmp 2),_,_,_,none⟩) (v:=?_) rfl hHeld ?_ ?_;rotate_left
 ·rintro w ⟨-,-⟩;go_simp;try with_reducible rfl
 (try simp only[Act.put,za,zb,zc])
 refine tk (i:=11) (oi:=⟨some 11,Op.fieldAddr 167 (Operand.tmp 10) 3,_,_,_,none⟩) (v:=?_) rfl hHeld ?_ ?_;rotate_left
 ·rintro w ⟨-,-⟩;go_simp;try with_reducible rfl
 (try simp only[Act.put,za,zb,zc])
 refine wpAnyH_ready (rs:=[12]) (by kernel_rfl) (by simp) ?_
 refine AllReadyH.cons (o:=⟨none,Op.store 165 (Operand.tmp 11) (Operand.const (Value.slice none 0 0)),_,_,_,none⟩) rfl (fun K hK=>?_) AllReadyH.nil
 go_simp
 refine hK.out _ _ ⟨yw (Or.inl (Ne.symm hne)) hHeld.1,yw (Or.inr (by decide)) hHeld.2⟩ (fun hHeld=>?_)
 clear hK K
 (try simp only[Act.put,za,zb,zc])
 refine wpAnyH_done (by kernel_rfl) ?_ _
 go_wp2_with fail
 first|go_end0|refine bodyPost_ret (results_none rfl _ _ _) rfl ?_
 exact⟨rfl,⟨_,_,_,HQ.out.1⟩,HQ.out.2⟩
end
theorem zlb (a:Int):wrap64 (wrap64 a+1)=wrap64 (a+1):=by unfold wrap64;omega
set_option maxRecDepth 100000 in
theorem dwrite1 (W:World):Calls Tryz.prog 102 #[] W fun e w'=>e = .returned (.tuple #[])∧w'=W:=by
 go_enter Tryz.func102,Tryz.ntmps102
 go_wp2
 first|go_end0|refine bodyPost_ret (results_none rfl _ _ _) rfl ?_
 exact⟨rfl,rfl⟩
section
variable {own : Nat → Prop} {W W' : World} {db sb nb : Nat} {lv : Value} {d : Dk}
theorem DAt.step (h:DAt own W db sb nb lv d):DAt own (W.setCell ⟨db,4,none⟩ (.int .i64 (wrap64 (wrap64 d.steps+1)))) db sb nb lv { d with steps:=d.steps+1 }:=
 h.set 4 _ { d with steps:=d.steps+1 } (by rw[zlb];rfl) rfl rfl rfl rfl h.w0 h.w1
theorem DAt.went (h:DAt own W db sb nb lv { d with steps:=d.steps+1 }) {m:Int} (hm:m=max (-1) (d.well-1)):DAt own (W.setCell ⟨db,5,none⟩ (.int .i64 m)) db sb nb lv d.went:=by
 subst hm;have h0 : -1≤d.well:=h.w0;have h1:d.well<9223372036854775808:=h.w1
 exact h.set 5 _ d.went rfl rfl rfl rfl rfl (by show -1≤max (-1) (d.well-1);omega) (by show max (-1) (d.well-1)<_;omega)
set_option maxRecDepth 100000 in
theorem dstepW (h:DAt own W db sb nb lv d):Calls Tryz.prog 101 #[.pointer (some ⟨db,0,none⟩),.func (.func 102) #[] #[]] W (if d.stepB=true then ug own W db d.went (.int .i64 0) else ug own W db d.gone (.int .i64 180)):=by
 have h1:=h.step;have w0:=h.w0;have w1:=h.w1;obtain⟨c0,c1,c2,c3,c4,c5,c6,y⟩:=h.cells;have HC:Hid (∀m,m=max (-1) (d.well-1)→DAt own ((W.setCell ⟨db,4,none⟩ (.int .i64 (wrap64 (wrap64 d.steps+1)))).setCell ⟨db,5,none⟩ (.int .i64 m)) db sb nb lv d.went∧zq (fun k=>¬own k) W ((W.setCell ⟨db,4,none⟩ (.int .i64 (wrap64 (wrap64 d.steps+1)))).setCell ⟨db,5,none⟩ (.int .i64 m))):=(fun m hm=>⟨h1.went hm,(jh h _ _).trans (jh h1 _ _)⟩)
 by_cases hw:d.well=0
 ·rw[if_neg (by simp[Dk.stepB,hw])]
  have HCR:Hid (Calls Tryz.prog 41 #[.pointer (some ⟨db,0,none⟩)] (W.setCell ⟨db,4,none⟩ (.int .i64 (wrap64 (wrap64 d.steps+1)))) (ug own (W.setCell ⟨db,4,none⟩ (.int .i64 (wrap64 (wrap64 d.steps+1)))) db d.gone (.tuple #[]))):=(show Calls _ _ _ _ _ from zho ⟨_,_,_,h1⟩)
  have HT1:=zd (jh h 4 (.int .i64 (wrap64 (wrap64 d.steps+1))));clear h h1;generalize d.steps=st at *;generalize d.n=dn at *;rw[hw] at c5
  go_enter Tryz.func101,Tryz.ntmps101
  go_wp2_with (go_at_call 41;refine HCR.out.mono ?_;rintro e w1 ⟨rfl,hd,ht⟩;have HD:=zd hd;have HT:=zd ht;clear hd ht)
  go_ret
  exact⟨rfl,HD.out,HT1.out.trans HT.out⟩
 ·rw[if_pos (by simp[Dk.stepB,hw])]
  clear h h1
  go_enter Tryz.func101,Tryz.ntmps101
  go_wp2_with (go_at_call 102;refine(dwrite1 _).mono ?_;rintro e w1 ⟨rfl,h5⟩;subst h5)
  all_goals go_ret
  all_goals exact⟨rfl,⟨_,_,_,(HC.out _ (by omega)).1⟩,(HC.out _ (by omega)).2⟩
set_option maxRecDepth 100000 in
theorem dstepS (h:DAt own W db sb nb lv d) {cb:Nat} (hcb:W.cell? ⟨cb,0,none⟩=some (.pointer (some ⟨db,0,none⟩))) (hne:db≠cb):Calls Tryz.prog 101 #[.pointer (some ⟨db,0,none⟩),.func (.func 103) #[] #[.pointer (some ⟨cb,0,none⟩)]] W (if d.stepB=true then ug own W db d.went.settled (.int .i64 0) else ug own W db d.gone (.int .i64 180)):=by
 have h1:=h.step;have w0:=h.w0;have w1:=h.w1;obtain⟨c0,c1,c2,c3,c4,c5,c6,y⟩:=h.cells;have HT0:Hid (∀m,zq (fun k=>¬own k) W ((W.setCell ⟨db,4,none⟩ (.int .i64 (wrap64 (wrap64 d.steps+1)))).setCell ⟨db,5,none⟩ (.int .i64 m))):=(fun m=>(jh h _ _).trans (jh h1 _ _))
 have HC:Hid (∀m,m=max (-1) (d.well-1)→Calls Tryz.prog 103 #[.pointer (some ⟨cb,0,none⟩)] ((W.setCell ⟨db,4,none⟩ (.int .i64 (wrap64 (wrap64 d.steps+1)))).setCell ⟨db,5,none⟩ (.int .i64 m)) (ug own ((W.setCell ⟨db,4,none⟩ (.int .i64 (wrap64 (wrap64 d.steps+1)))).setCell ⟨db,5,none⟩ (.int .i64 m)) db d.went.settled (.tuple #[]))):=(fun m hm=>dsync1 (h1.went hm) (yw (Or.inl (Ne.symm hne)) (yw (Or.inl (Ne.symm hne)) hcb)) hne)
 by_cases hw:d.well=0
 ·rw[if_neg (by simp[Dk.stepB,hw])]
  have HCR:Hid (Calls Tryz.prog 41 #[.pointer (some ⟨db,0,none⟩)] (W.setCell ⟨db,4,none⟩ (.int .i64 (wrap64 (wrap64 d.steps+1)))) (ug own (W.setCell ⟨db,4,none⟩ (.int .i64 (wrap64 (wrap64 d.steps+1)))) db d.gone (.tuple #[]))):=(show Calls _ _ _ _ _ from zho ⟨_,_,_,h1⟩)
  have HT1:=zd (jh h 4 (.int .i64 (wrap64 (wrap64 d.steps+1))));clear h h1;generalize d.steps=st at *;generalize d.n=dn at *;rw[hw] at c5
  go_enter Tryz.func101,Tryz.ntmps101
  go_wp2_with (go_at_call 41;refine HCR.out.mono ?_;rintro e w1 ⟨rfl,hd,ht⟩;have HD:=zd hd;have HT:=zd ht;clear hd ht)
  go_ret
  exact⟨rfl,HD.out,HT1.out.trans HT.out⟩
 ·rw[if_pos (by simp[Dk.stepB,hw])]
  clear h h1
  go_enter Tryz.func101,Tryz.ntmps101
  go_wp2_with (go_at_call 103;refine(HC.out _ (by omega)).mono ?_;rintro e w1 ⟨rfl,hd,ht⟩;have HD:=zd hd;have HT:=zd ht;clear hd ht)
  all_goals go_ret
  all_goals exact⟨rfl,HD.out,(HT0.out _).trans HT.out⟩
def Dk.syncV (d:Dk):Int:=if d.off=true then 180 else if d.stepB=true then 0 else 180
def Dk.synced (d:Dk):Dk:=if d.off=true then d else if d.stepB=true then d.went.settled else d.gone
set_option maxRecDepth 100000 in
theorem dsync (h:vl own W db d):Calls Tryz.prog 25 #[.pointer (some ⟨db,0,none⟩)] W (ug own W db d.synced (.int .i64 d.syncV)):=by
 have hlt:=h.dlt;have H:=zd h;have HG:=zd (zg W (.cells #[.pointer (some ⟨db,0,none⟩)] 28) none);have H2:=zd (h.kept HG.out);obtain⟨sb,nb,lv,h⟩:=h.ex;obtain⟨c0,c1,c2,c3,c4,c5,c6,y⟩:=h.cells;clear h
 cases ho:d.off
 ·have HS:Hid (Calls Tryz.prog 101 #[.pointer (some ⟨db,0,none⟩),.func (.func 103) #[] #[.pointer (some ⟨W.heap.size,0,none⟩)]] (W.alloc (.cells #[.pointer (some ⟨db,0,none⟩)] 28)) (ug own (W.alloc (.cells #[.pointer (some ⟨db,0,none⟩)] 28)) db d.synced (.int .i64 d.syncV))):=(by
   obtain⟨sb,nb,lv,h2⟩:=H2.out.ex;have hs:=dstepS h2 (cb:=W.heap.size) (by simp) (by omega)
   refine hs.mono fun e w' hp=>?_
   unfold Dk.synced Dk.syncV;rw[ho];simp only[Bool.false_eq_true,if_false]
   split at hp <;> rename_i hb <;> simp only[hb] <;> exact hp)
  rw[ho] at c6;have hmf:∀(fn:Fn) (first cap:Array Value) (w:World),(Instr.makeFunc fn first cap).run Tryz.prog w = .ok (.func fn first cap) w:=fun _ _ _ _=>rfl
  go_enter Tryz.func25,Tryz.ntmps25
  go_wp2_with (go_at_call 101;refine HS.out.mono ?_;rintro e w1 ⟨rfl,hd,ht⟩;have HD:=zd hd;have HT:=zd ht;clear hd ht)
  go_ret
  exact⟨rfl,HD.out,vc HG.out HT.out⟩
 ·unfold Dk.synced Dk.syncV
  rw[ho];rw[ho] at c6
  go_enter Tryz.func25,Tryz.ntmps25
  go_wp2
  go_ret
  exact⟨rfl,H2.out,vc HG.out (zq.refl _ _)⟩
end
end Go.Proofs.YtbcbhlfjgobejaaGreat
namespace Go.Sf
open Go.MapKept Go.RowKit
open Go.ChangeMaps (setBlock)
section
variable {P : Program} {K V : Type} [DecidableEq K] {ek : K → Value} {ev : V → Value} {w : World} {b : Nat} {m : List (K × V)} {kt et t : TypeId}
theorem Qz (w:World) (b:Nat) (o o':Obj):setBlock (setBlock w b o) b o'=setBlock w b o':=by
 simp[setBlock]
theorem zda {es:List MapEntry} (hn:(es.map (·.born)).Nodup) {j:Nat} {e:MapEntry} (h:es[j]? = some e):es.findIdx? (fun x=>((x.born:Int) == (e.born:Int)))=some j:=by
 rw[List.findIdx?_eq_some_iff_getElem];obtain⟨hj,rfl⟩:=List.getElem?_eq_some_iff.1 h;refine⟨hj,by simp,fun i hi=>?_⟩
 have hil:i<es.length:=by omega
 intro hb;have hb3:((es[i].born:Nat):Int)=es[j].born:=by simpa using hb
 have hb2:es[i].born=es[j].born:=by omega
 have h1:(es.map (·.born))[i]'(by simpa using hil)=(es.map (·.born))[j]'(by simpa using hj):=by simpa using hb2
 have:=(List.getElem_inj hn).1 h1;omega
theorem yg.entry (KE:Qf P kt ek) (ht:P.underlying t=some (.map kt et)) {z:Value} (hz:∀w,(zeroValue et).run P w = .ok z w) (h:yg w b ek ev m) (k:K) :
  ∃w1 v0 s,(Instr.mapEntry t (.map (some b)) (ek k)).run P w = .ok (.tuple #[v0,.int .i64 s]) w1∧w.grownBy w1 (some b)∧w1.heap.size=w.heap.size∧
   ∀(u:V) (ty:TypeId),∃w2,(Instr.entryStore ty (.map (some b)) (.int .i64 s) (ev u)).run P w1 = .ok () w2∧yg w2 b ek ev (yj m k u)∧w.grownBy w2 (some b)∧w2.heap.size=w.heap.size:=by
 have hnd:=h.nodup;obtain⟨es,clock,hb,hs,he⟩:=h;have hlt:b<w.heap.size:=(Array.getElem?_eq_some_iff.1 hb).1;have hkeys:∀x∈es.toList,∃k',x.key=ek k':=fun x hx=>by obtain⟨p,_,e,_⟩:=Yd he x hx;exact⟨p.1,e⟩
 have grown:∀o,w.grownBy (setBlock w b o) (some b)∧(setBlock w b o).heap.size=w.heap.size:=fun o=>
  ⟨⟨rfl,rfl,rfl,by simp[setBlock],fun i _ hi=>(heap_set hb).2 i (fun e=>hi (by rw[e]))⟩,by simp[setBlock]⟩
 have hsame:∀o:Obj,(setBlock w b o).heap[b]? = some o:=fun o=>by simp[setBlock,hlt]
 rcases KE.find k es.toList w hkeys with ⟨h1,h2⟩|⟨j,e,h1,h2,h3⟩
 ·have hne:∀p∈m,p.1≠k:=fun p hp e=>by
   obtain⟨x,hx,e1,_⟩:=Xh he p hp
   exact h2 x hx (by rw[e1,e])
  refine⟨setBlock w b (.map (es.push { key:=ek k,val:=z,born:=clock }) (clock+1)),z,clock,?_,(grown _).1,(grown _).2,fun u ty=>⟨setBlock w b (.map (es.push { key:=ek k,val:=ev u,born:=clock }) (clock+1)),?_,⟨_,_,hsame _,stamped_push hs (fun x hx=>h2 x hx),?_⟩,(grown _).1,(grown _).2⟩⟩
  ·simp only[Instr.mapEntry,Sem.run_bind,run_underlying ht,Result.andThen,getObj,Sem.run,hb,KE.check,h1,setObj,setBlock,hz,goInt,Sem.run_pure]
  ·have hst:=stamped_push hs (key:=ek k) (val:=z) (fun x hx=>h2 x hx)
   have hf:(es.push { key:=ek k,val:=z,born:=clock }).findIdx? (fun x=>((x.born:Int) == (clock:Int)))=some es.size:=by
    have:=zda (es:=(es.push { key:=ek k,val:=z,born:=clock }).toList) hst.2.1 (j:=es.size) (e:={ key:=ek k,val:=z,born:=clock }) (by simp)
    rw[←Array.toArray_toList (xs:=es.push { key:=ek k,val:=z,born:=clock }),List.findIdx?_toArray]
    exact this
   have hm:(es.push { key:=ek k,val:=z,born:=clock }).modify es.size (fun e=>{ e with val:=ev u })=es.push { key:=ek k,val:=ev u,born:=clock }:=by
    apply Array.ext_getElem?
    intro i;rw[Array.getElem?_modify]
    by_cases hi:es.size=i
    ·subst hi;simp
    ·have:¬i=es.size:=fun e=>hi e.symm
     simp[hi,Array.getElem?_push,this]
   have hai:(asInt (.int .i64 (clock:Int))).run P (setBlock w b (.map (es.push { key:=ek k,val:=z,born:=clock }) (clock+1))) = .ok (clock:Int) (setBlock w b (.map (es.push { key:=ek k,val:=z,born:=clock }) (clock+1))):=rfl;simp only[Instr.entryStore,Sem.run_bind,Result.andThen,getObj,Sem.run,hsame,hai,hf,setObj,hm]
   exact congrArg (Result.ok ()) (Qz w b _ _)
  ·rw[Zn hne]
   simp[he]
 ·obtain⟨p,hp,e1,e2⟩:=Xg he h2
  have hk:p.1=k:=KE.inj _ _ (e1.symm.trans h3);have hej:es[j]? = some e:=by simpa using h2
  have hjl:j<es.size:=(Array.getElem?_eq_some_iff.1 hej).1;have hst:=stamped_modify hs j (fun e=>{ e with key:=ek k }) (fun _ _=>rfl) (fun x _ hx=>by rw[hej] at hx;cases hx;exact h3.symm)
  refine⟨setBlock w b (.map (es.modify j fun e=>{ e with key:=ek k }) clock),e.val,e.born,?_,(grown _).1,(grown _).2,fun u ty=>⟨setBlock w b (.map (es.modify j fun e=>{ e with key:=ek k,val:=ev u }) clock),?_,⟨_,_,hsame _,stamped_modify hs j _ (fun _ _=>rfl) (fun x _ hx=>?_),?_⟩,(grown _).1,(grown _).2⟩⟩
  ·have hk2:((es[j]?).map (·.key)).getD (ek k)=ek k:=by rw[hej];exact h3
   have hk3:((es[j]?).map (fun x=>(x.born:Int))).getD 0=(e.born:Int):=by rw[hej];rfl
   simp only[Instr.mapEntry,Sem.run_bind,run_underlying ht,Result.andThen,getObj,Sem.run,hb,KE.check,h1,hk2,hk3,Instr.keyThatStays,KE.same,if_true,Sem.run_pure,setObj,setBlock,goInt]
  ·have hf:(es.modify j fun e=>{ e with key:=ek k }).findIdx? (fun x=>((x.born:Int) == (e.born:Int)))=some j:=by
    have:=zda (es:=(es.modify j fun e=>{ e with key:=ek k }).toList) hst.2.1 (j:=j) (e:={ e with key:=ek k }) (by simp[hej])
    rw[←Array.toArray_toList (xs:=es.modify j fun e=>{ e with key:=ek k }),List.findIdx?_toArray]
    exact this
   have hm:(es.modify j fun e=>{ e with key:=ek k }).modify j (fun e=>{ e with val:=ev u })=es.modify j fun e=>{ e with key:=ek k,val:=ev u }:=by
    apply Array.ext_getElem?
    intro i;simp only[Array.getElem?_modify]
    by_cases hi:j=i
    ·subst hi;simp[hej]
    ·simp[hi]
   have hai:(asInt (.int .i64 (e.born:Int))).run P (setBlock w b (.map (es.modify j fun e=>{ e with key:=ek k }) clock)) = .ok (e.born:Int) (setBlock w b (.map (es.modify j fun e=>{ e with key:=ek k }) clock)):=rfl
   simp only[Instr.entryStore,Sem.run_bind,Result.andThen,getObj,Sem.run,hsame,hai,hf,setObj,hm]
   exact congrArg (Result.ok ()) (Qz w b _ _)
  ·rw[hej] at hx;cases hx;exact h3.symm
  ·rw[←hk,zeg hnd hp]
   apply List.ext_getElem?
   intro i;simp only[List.getElem?_map,Array.getElem?_toList,Array.getElem?_modify,List.getElem?_set];have hj:=congrArg (fun l=>l[i]?) he
   simp only[List.getElem?_map,Array.getElem?_toList] at hj
   by_cases hij:j=i
   ·subst hij
    have hlen:j<m.length:=(List.getElem?_eq_some_iff.1 hp).1;simp[hej,hlen]
   ·simp[hij,hj]
end
end Go.Sf
