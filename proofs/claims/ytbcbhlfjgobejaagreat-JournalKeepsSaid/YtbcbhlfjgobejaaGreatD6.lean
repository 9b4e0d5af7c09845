/- A disk in memory; New, Blocks, Off, Steps, Fail, Crash, may: the walks. Conditions: none beyond the disk's being there. A disk's maps.Clone, Sync, step: the walks. Conditions: none beyond the disk's being there. A disk's step, Sync: the walks. Conditions: none beyond the disk's being there. -/
import Derived.Test.YtbcbhlfjgobejaaGreatD5
import Derived.Deep.DeepCutAuto
import Derived.Deep.RegionLaw
import Derived.Laws.Externs
import Derived.Deep.RegionHeld3
set_option linter.unusedSimpArgs false
set_option linter.unusedVariables false
namespace Go.Proofs.YtbcbhlfjgobejaaGreat
open Go.RowKit Go.Sf
def BlkL (m:List (Int × List Int)):Prop:=∀p∈m,p.2.length=256∧BL p.2
structure DAt (own:Nat→Prop) (W:World) (db sb nb:Nat) (lv:Value) (d:Dk):Prop where
 box:W.heap[db]? = some (.cells #[.int .i64 d.n,.map (some sb),.map (some nb),lv,.int .i64 (wrap64 d.steps),.int .i64 d.well,.bool d.off] 167 (0,0))
 st:MapT W sb (Value.int .i64) encB d.st
 now:MapT W nb (Value.int .i64) encB d.now
 late:W.ownsRow 0 176 257 lv d.late.length (d.late.flatMap lateCells)
 sn:sb≠nb
 odb:¬own db
 osb:¬own sb
 onb:¬own nb
 olv:∀g,lv.ownBlock=some g→¬own g
 lt:∀k,own k→k<W.heap.size
 n:d.n≤4096
 w0 : -1≤d.well
 w1:d.well<9223372036854775808
 bst:BlkL d.st
 bnow:BlkL d.now
 blate:BlkL d.late
 few:d.late.length≤1000000
structure DRep (own:Nat→Prop) (W:World) (db:Nat) (d:Dk):Prop where
 ex:∃sb nb lv,DAt own W db sb nb lv d
def DPost (own:Nat→Prop) (W:World) (db:Nat) (d:Dk) (v:Value) (e:Ending) (w':World):Prop:=e = .returned v∧DRep own w' db d∧Turn (fun k=>¬own k) W w'
theorem own_lt {W:World} {base n size:Nat} {e:TypeId} {v:Value} {xs:List Value} (h:W.ownsRow base e size v n xs) {g:Nat} (hg:v.ownBlock=some g):g<W.heap.size:=(h.lt g hg).2
section
variable {own : Nat → Prop} {W W' : World} {db sb nb : Nat} {lv : Value} {d : Dk}
theorem DAt.dlt (h:DAt own W db sb nb lv d):db<W.heap.size:=(Array.getElem?_eq_some_iff.1 h.box).1
theorem DAt.kept (h:DAt own W db sb nb lv d) (hg:W.grownBy W' none):DAt own W' db sb nb lv d where
 box:=(hg.block db h.dlt (by simp)).trans h.box
 st:=h.st.kept hg (by simp)
 now:=h.now.kept hg (by simp)
 late:=h.late.kept hg (by
  rcases h2:lv.ownBlock with _|k
  ·exact Or.inl rfl
  ·exact Or.inr (by simp))
 sn:=h.sn
 odb:=h.odb
 osb:=h.osb
 onb:=h.onb
 olv:=h.olv
 lt:=fun k hk=>Nat.lt_of_lt_of_le (h.lt k hk) hg.size
 n:=h.n
 w0:=h.w0
 w1:=h.w1
 bst:=h.bst
 bnow:=h.bnow
 blate:=h.blate
 few:=h.few
theorem DRep.kept (h:DRep own W db d) (hg:W.grownBy W' none):DRep own W' db d:=by
 obtain⟨sb,nb,lv,h⟩:=h.ex
 exact⟨sb,nb,lv,h.kept hg⟩
theorem DAt.less (h:DAt own W db sb nb lv d) {own':Nat→Prop} (hs:∀k,own' k→own k):DAt own' W db sb nb lv d:=
 ⟨h.box,h.st,h.now,h.late,h.sn,fun e=>h.odb (hs _ e),fun e=>h.osb (hs _ e),fun e=>h.onb (hs _ e),fun g hg e=>h.olv g hg (hs _ e),fun k hk=>h.lt k (hs k hk),h.n,h.w0,h.w1,h.bst,h.bnow,h.blate,h.few⟩
theorem DRep.less (h:DRep own W db d) {own':Nat→Prop} (hs:∀k,own' k→own k):DRep own' W db d:=by
 obtain⟨sb,nb,lv,h⟩:=h.ex
 exact⟨sb,nb,lv,h.less hs⟩
theorem DRep.more (h:DRep own W db d) (hg:W.grownBy W' none) {own':Nat→Prop} (hs:∀k,own' k→own k∨W.heap.size≤k) (hl:∀k,own' k→k<W'.heap.size):DRep own' W' db d:=by
 obtain⟨sb,nb,lv,h⟩:=h.ex
 have h':=h.kept hg
 have a1:=h.dlt
 have a2:=h.st.lt
 have a3:=h.now.lt
 refine⟨sb,nb,lv,h'.box,h'.st,h'.now,h'.late,h'.sn,fun e=>?_,fun e=>?_,fun e=>?_,fun g hg2 e=>?_,hl,h.n,h.w0,h.w1,h.bst,h.bnow,h.blate,h.few⟩
 ·rcases hs _ e with e|e
  ·exact h.odb e
  ·omega
 ·rcases hs _ e with e|e
  ·exact h.osb e
  ·omega
 ·rcases hs _ e with e|e
  ·exact h.onb e
  ·omega
 ·have:=own_lt h.late hg2
  rcases hs _ e with e|e
  ·exact h.olv g hg2 e
  ·omega
theorem DRep.dlt (h:DRep own W db d):db<W.heap.size:=by
 obtain⟨sb,nb,lv,h⟩:=h.ex
 exact h.dlt
theorem DRep.own_lt (h:DRep own W db d) {k:Nat} (hk:own k):k<W.heap.size:=by
 obtain⟨sb,nb,lv,h⟩:=h.ex
 exact h.lt k hk
theorem DAt.cells (h:DAt own W db sb nb lv d):W.cell? ⟨db,0,none⟩=some (.int .i64 d.n)∧W.cell? ⟨db,1,none⟩=some (.map (some sb))∧W.cell? ⟨db,2,none⟩=some (.map (some nb))∧W.cell? ⟨db,3,none⟩=some lv∧W.cell? ⟨db,4,none⟩=some (.int .i64 (wrap64 d.steps))∧W.cell? ⟨db,5,none⟩=some (.int .i64 d.well)∧W.cell? ⟨db,6,none⟩=some (.bool d.off)∧∀i,W.frozen? ⟨db,i,none⟩=false:=by
 have hb:=h.box
 refine⟨?_,?_,?_,?_,?_,?_,?_,fun i=>?_⟩ <;> simp[World.cell?,World.frozen?,hb]
theorem DAt.set (h:DAt own W db sb nb lv d) (i:Nat) (v:Value) (d':Dk) (hb:(#[.int .i64 d.n,.map (some sb),.map (some nb),lv,.int .i64 (wrap64 d.steps),.int .i64 d.well,.bool d.off]:Array Value).setIfInBounds i v = #[.int .i64 d'.n,.map (some sb),.map (some nb),lv,.int .i64 (wrap64 d'.steps),.int .i64 d'.well,.bool d'.off])
  (e1:d'.st=d.st) (e2:d'.now=d.now) (e3:d'.late=d.late) (e4:d'.n=d.n) (e5 : -1≤d'.well) (e6:d'.well<9223372036854775808):DAt own (W.setCell ⟨db,i,none⟩ v) db sb nb lv d':=by
 have hs:=grown_set W db i v
 have hx:=h.box
 have h1:sb≠db:=fun e=>by obtain⟨es,c,hb2,_⟩:=h.st;rw[e,hx] at hb2;cases hb2
 have h2:nb≠db:=fun e=>by obtain⟨es,c,hb2,_⟩:=h.now;rw[e,hx] at hb2;cases hb2
 refine⟨?_,by rw[e1];exact h.st.kept hs (by simp;exact h1),by rw[e2];exact h.now.kept hs (by simp;exact h2),?_,h.sn,h.odb,h.osb,h.onb,h.olv,fun k hk=>Nat.lt_of_lt_of_le (h.lt k hk) hs.size,by rw[e4];exact h.n,e5,e6,by rw[e1];exact h.bst,by rw[e2];exact h.bnow,by rw[e3];exact h.blate,by rw[e3];exact h.few⟩
 ·simp only[World.setCell,Array.getElem?_modify,hx,if_true,Option.map_some]
  rw[hb]
  rfl
 ·rw[e3]
  refine h.late.kept hs ?_
  rcases h3:lv.ownBlock with _|k
  ·exact Or.inl rfl
  ·right
   intro e
   simp at e
   rcases h.late.2 with ⟨e4,_⟩|⟨b,c,cur,e4,_,hb2,_⟩
   ·rw[e4] at h3;simp[Value.ownBlock] at h3
   ·rw[e4] at h3;simp[Value.ownBlock] at h3
    subst h3;subst e
    rw[hx] at hb2
    cases hb2
theorem turn_own (h:DAt own W db sb nb lv d) (i:Nat) (v:Value):Turn (fun k=>¬own k) W (W.setCell ⟨db,i,none⟩ v):=
 (turn_set W db i v).mono fun k hk ho=>h.odb (hk ▸ ho)
set_option maxRecDepth 100000 in
theorem dblocks (h:DRep own W db d):Calls Tryz.prog 81 #[.pointer (some ⟨db,0,none⟩)] W fun e w'=>e = .returned (.int .i64 d.n)∧w'=W:=by
 obtain⟨sb,nb,lv,h⟩:=h.ex
 obtain⟨c0,c1,c2,c3,c4,c5,c6,y⟩:=h.cells
 clear h
 go_enter Tryz.func81,Tryz.ntmps81
 go_wp2
 go_ret
 exact⟨rfl,rfl⟩
set_option maxRecDepth 100000 in
theorem doff (h:DRep own W db d):Calls Tryz.prog 33 #[.pointer (some ⟨db,0,none⟩)] W fun e w'=>e = .returned (.bool d.off)∧w'=W:=by
 obtain⟨sb,nb,lv,h⟩:=h.ex
 obtain⟨c0,c1,c2,c3,c4,c5,c6,y⟩:=h.cells
 clear h
 go_enter Tryz.func33,Tryz.ntmps33
 go_wp2
 go_ret
 exact⟨rfl,rfl⟩
def Dk.failed (d:Dk) (n:Int):Dk:={ d with well:=max (-1) n }
set_option maxRecDepth 100000 in
theorem dfail (h:DRep own W db d) (n:Int) (hn:n<9223372036854775808):Calls Tryz.prog 28 #[.pointer (some ⟨db,0,none⟩),.int .i64 n] W (DPost own W db (d.failed n) (.tuple #[])):=by
 obtain⟨sb,nb,lv,h⟩:=h.ex
 obtain⟨c0,c1,c2,c3,c4,c5,c6,y⟩:=h.cells
 have HS:Hid (∀m,m=max (-1) n→DAt own (W.setCell ⟨db,5,none⟩ (.int .i64 m)) db sb nb lv (d.failed n)∧Turn (fun k=>¬own k) W (W.setCell ⟨db,5,none⟩ (.int .i64 m))):=(fun m hm=>by
  subst hm
  exact⟨h.set 5 _ (d.failed n) rfl rfl rfl rfl rfl (by show -1≤max (-1) n;omega) (by show max (-1) n<_;omega),turn_own h _ _⟩)
 clear h
 go_enter Tryz.func28,Tryz.ntmps28
 go_wp2
 all_goals first|go_end0|refine bodyPost_ret (results_none rfl _ _ _) rfl ?_
 all_goals exact⟨rfl,⟨_,_,_,(HS.out _ (by omega)).1⟩,(HS.out _ (by omega)).2⟩
def Dk.crashed (d:Dk):Dk:={ d with off:=true,well:=-1 }
set_option maxRecDepth 100000 in
theorem dcrash (h:DRep own W db d):Calls Tryz.prog 41 #[.pointer (some ⟨db,0,none⟩)] W (DPost own W db d.crashed (.tuple #[])):=by
 obtain⟨sb,nb,lv,h⟩:=h.ex
 obtain⟨c0,c1,c2,c3,c4,c5,c6,y⟩:=h.cells
 have h1:=h.set 6 (.bool true) { d with off:=true } rfl rfl rfl rfl rfl h.w0 h.w1
 have h2:=h1.set 5 (.int .i64 (-1)) d.crashed rfl rfl rfl rfl rfl (by show(-1:Int)≤-1;omega) (by show(-1:Int)<_;omega)
 have HS:=Lib.hid (And.intro h2 ((turn_own h 6 (.bool true)).trans (turn_own h1 5 (.int .i64 (-1)))))
 clear h h1 h2
 go_enter Tryz.func41,Tryz.ntmps41
 go_wp2
 first|go_end0|refine bodyPost_ret (results_none rfl _ _ _) rfl ?_
 exact⟨rfl,⟨_,_,_,HS.out.1⟩,HS.out.2⟩
def Dk.mayE (d:Dk) (i:Int) (n:Nat):Int:=if d.off=true then 180 else if i<0∨(d.n:Int)≤i then 2 else if 256<n then 3 else 0
set_option maxRecDepth 100000 in
theorem dmay (h:DRep own W db d) (i:Int) (p:Option Addr) (n c:Nat):Calls Tryz.prog 100 #[.pointer (some ⟨db,0,none⟩),.int .i64 i,.slice p n c] W fun e w'=>e = .returned (.int .i64 (d.mayE i n))∧w'=W:=by
 obtain⟨sb,nb,lv,h⟩:=h.ex
 obtain⟨c0,c1,c2,c3,c4,c5,c6,y⟩:=h.cells
 clear h
 unfold Dk.mayE
 cases ho:d.off
 ·rw[ho] at c6
  by_cases hi:i<0
  ·go_enter Tryz.func100,Tryz.ntmps100
   go_wp2
   go_ret
   exact⟨by simp[hi],rfl⟩
  ·by_cases hn:(d.n:Int)≤i
   ·go_enter Tryz.func100,Tryz.ntmps100
    go_wp2
    go_ret
    exact⟨by simp[hn],rfl⟩
   ·by_cases hc:256<n
    ·go_enter Tryz.func100,Tryz.ntmps100
     go_wp2
     go_ret
     exact⟨by simp[hi,hn,hc],rfl⟩
    ·go_enter Tryz.func100,Tryz.ntmps100
     go_wp2
     go_ret
     exact⟨by simp[hi,hn,hc],rfl⟩
 ·rw[ho] at c6
  go_enter Tryz.func100,Tryz.ntmps100
  go_wp2
  go_ret
  exact⟨by simp,rfl⟩
end
def Dk.new (n:Int):Dk:=⟨(min 4096 (max 0 n)).toNat,[],[],[],0,-1,false⟩
theorem DAt.fresh (W:World) (n:Int) (own:Nat→Prop) (ho:∀k,own k→k<W.heap.size) (m:Int) (hm:m=min 4096 (max 0 n)) :
  DAt own (((W.alloc (.map #[] 0)).alloc (.map #[] 0)).alloc (.cells #[.int .i64 m,.map (some W.heap.size),.map (some (W.heap.size+1)),.slice none 0 0,.int .i64 0,.int .i64 (-1),.bool false] 167)) (W.heap.size+2) W.heap.size (W.heap.size+1) (.slice none 0 0) (Dk.new n):=by
 have s1:(W.alloc (.map #[] 0)).heap.size=W.heap.size+1:=by simp
 have s2:((W.alloc (.map #[] 0)).alloc (.map #[] 0)).heap.size=W.heap.size+2:=by simp
 have hm2:((((min 4096 (max 0 n)).toNat:Nat):Int))=m:=by omega
 have hb:=heap_alloc_new ((W.alloc (.map #[] 0)).alloc (.map #[] 0)) (.cells #[.int .i64 m,.map (some W.heap.size),.map (some (W.heap.size+1)),.slice none 0 0,.int .i64 0,.int .i64 (-1),.bool false] 167)
 rw[s2] at hb
 have m1:MapT (((W.alloc (.map #[] 0)).alloc (.map #[] 0)).alloc (.cells #[.int .i64 m,.map (some W.heap.size),.map (some (W.heap.size+1)),.slice none 0 0,.int .i64 0,.int .i64 (-1),.bool false] 167)) W.heap.size (Value.int .i64) encB ([]:List (Int × List Int)):=((mapT_made W (Value.int .i64) encB).alloc _).alloc _
 have m2:MapT (((W.alloc (.map #[] 0)).alloc (.map #[] 0)).alloc (.cells #[.int .i64 m,.map (some W.heap.size),.map (some (W.heap.size+1)),.slice none 0 0,.int .i64 0,.int .i64 (-1),.bool false] 167)) (W.heap.size+1) (Value.int .i64) encB ([]:List (Int × List Int)):=by
  have:=(mapT_made (W.alloc (.map #[] 0)) (Value.int .i64) encB).alloc (.cells #[.int .i64 m,.map (some W.heap.size),.map (some (W.heap.size+1)),.slice none 0 0,.int .i64 0,.int .i64 (-1),.bool false] 167)
  rwa [s1] at this
 refine⟨?_,m1,m2,World.ownsRow_nil _ _ _ _,by omega,fun e=>by have:=ho _ e;omega,fun e=>by have:=ho _ e;omega,fun e=>by have:=ho _ e;omega,fun g hg=>by simp[Value.ownBlock] at hg,fun k hk=>by have:=ho k hk;simp;omega,?_,?_,?_,fun p hp=>by simp[Dk.new] at hp,fun p hp=>by simp[Dk.new] at hp,fun p hp=>by simp[Dk.new] at hp,by simp[Dk.new]⟩
 ·rw[hb]
  simp only[Dk.new,hm2,show wrap64 0=0 from by unfold wrap64;omega]
 ·show(min 4096 (max 0 n)).toNat≤4096;omega
 ·show(-1:Int)≤-1;omega
 ·show(-1:Int)<_;omega
set_option maxRecDepth 100000 in
theorem dnew (n:Int) (W:World):Calls Tryz.prog 19 #[.int .i64 n] W fun e w'=>∃db,e = .returned (.pointer (some ⟨db,0,none⟩))∧W.grownBy w' none∧W.heap.size≤db∧∀own:Nat→Prop,(∀k,own k→k<W.heap.size)→DRep own w' db (Dk.new n):=by
 have hmm:=@run_makeMap Tryz.prog
 go_enter Tryz.func19,Tryz.ntmps19
 go_wp2
 all_goals go_ret
 all_goals refine⟨_,rfl,?_,?_,fun own ho=>⟨_,_,_,DAt.fresh W n own ho _ ?_⟩⟩
 all_goals first
  | omega
  | (simp;done)
  | (repeat (first|exact grown_refl _|refine grown_alloc ?_ _))
@[go_sem] theorem eqlMapNil (b:Nat) (w:World):(binOp .eql 164 (.map (some b)) (.map none)).run Tryz.prog w = .ok (.bool false) w:=by kernel_rfl
@[go_sem] theorem asMapB (v:Value) (w:World):(Instr.typeAssert (.iface 164 v) 20 164 false).run Tryz.prog w = .ok v w:=by kernel_rfl
theorem run_clone {w:World} {r:Nat} {es:Array MapEntry} {clock:Nat} (t:TypeId) (hb:w.heap[r]? = some (.map es clock)) :
  (Extern.MapsClone.clone #[.iface t (.map (some r))]).run Tryz.prog w = .ok (.iface t (.map (some w.heap.size))) (w.alloc (.map es clock)):=by
 have e:Extern.MapsClone.clone #[.iface t (.map (some r))]=(getObj r >>= fun o=>match o with
   | .map entries clock=>(newObj (.map entries clock) >>= fun n=>pure (.iface t (.map (some n))))
   | _ => stuck "maps.clone: a map expected") := rfl
 rw[e]
 simp[MapKept.run_getObj_map hb,Result.andThen,go_sem]
section
variable {own : Nat → Prop} {W W' : World} {db sb nb : Nat} {lv : Value} {d : Dk}
set_option maxRecDepth 100000 in
theorem mclone {b:Nat} {m:List (Int × List Int)} (h:MapT W b (Value.int .i64) encB m):Calls Tryz.prog 104 #[.map (some b)] W fun e w'=>e = .returned (.map (some W.heap.size))∧MapT w' W.heap.size (Value.int .i64) encB m∧W.grownBy w' none∧W.heap.size<w'.heap.size:=by
 obtain⟨es,clock,hb,hs,he⟩:=h
 have HX:Hid (MapT (W.alloc (.map es clock)) W.heap.size (Value.int .i64) encB m):=(show MapT _ _ _ _ _ from ⟨es,clock,(MapKept.heap_alloc W _).1,hs,he⟩)
 clear hs he
 have hc:=fun t=>run_clone t hb
 go_enter Tryz.func104,Tryz.ntmps104
 go_wp2
 rw[run_callFunc_extern Tryz.func176 (by kernel_rfl) (by kernel_rfl) (by kernel_rfl) (e:=Extern.MapsClone.clone) (by kernel_rfl),hc]
 simp only[Result.andThen]
 rw[Oper.upon_value]
 go_wp2
 go_ret
 exact⟨rfl,HX.out,World.grownBy_alloc _ _ _,by simp⟩
theorem cell_far {w:World} {b i b2 j:Nat} {v u:Value} (h:b2≠b∨j≠i) (hc:w.cell? ⟨b2,j,none⟩=some u):(w.setCell ⟨b,i,none⟩ v).cell? ⟨b2,j,none⟩=some u:=by
 by_cases hb:b2=b
 ·subst hb
  have hj:j≠i:=h.resolve_left (fun e=>e rfl)
  rw[←hc]
  simp only[World.cell?,World.setCell,Array.getElem?_modify,if_true]
  cases w.heap[b2]? with
  | none=>rfl
  | some o=>cases o <;> simp[Array.getElem?_setIfInBounds,Ne.symm hj]
 ·rw[World.cell?_setCell_far _ _ _ _ (show b≠b2 from fun e=>hb e.symm)];exact hc
def Dk.settled (d:Dk):Dk:={ d with st:=d.now,late:=[] }
theorem DAt.cloned (h:DAt own W db sb nb lv d) {w1:World} {b:Nat} (hm:MapT w1 b (Value.int .i64) encB d.now) (hg:W.grownBy w1 none) (hb:W.heap.size≤b) :
  DAt own ((w1.setCell ⟨db,1,none⟩ (.map (some b))).setCell ⟨db,3,none⟩ (.slice none 0 0)) db b nb (.slice none 0 0) d.settled∧Turn (fun k=>¬own k) W ((w1.setCell ⟨db,1,none⟩ (.map (some b))).setCell ⟨db,3,none⟩ (.slice none 0 0)):=by
 have h1:=h.kept hg
 have hs1:=grown_set w1 db 1 (.map (some b))
 have hs2:=grown_set (w1.setCell ⟨db,1,none⟩ (.map (some b))) db 3 (.slice none 0 0)
 have hx:=h1.box
 have hn:nb≠db:=fun e=>by obtain⟨es,c,hb2,_⟩:=h1.now;rw[e,hx] at hb2;cases hb2
 have hbd:b≠db:=by have:=h.dlt;omega
 have hbn:b≠nb:=by have:=h.now.lt;omega
 have ht1:=(turn_set w1 db 1 (.map (some b))).mono (cs:=fun k=>¬own k) (fun k hk ho=>h.odb (hk ▸ ho))
 have ht2:=(turn_set (w1.setCell ⟨db,1,none⟩ (.map (some b))) db 3 (.slice none 0 0)).mono (cs:=fun k=>¬own k) (fun k hk ho=>h.odb (hk ▸ ho))
 refine⟨⟨?_,((hm.kept hs1 (by simp;exact hbd)).kept hs2 (by simp;exact hbd)),((h1.now.kept hs1 (by simp;exact hn)).kept hs2 (by simp;exact hn)),World.ownsRow_nil _ _ _ _,hbn,h.odb,fun e=>by have:=h.lt _ e;omega,h.onb,fun g hg=>by simp[Value.ownBlock] at hg,fun k hk=>Nat.lt_of_lt_of_le (h1.lt k hk) (Nat.le_trans hs1.size hs2.size),h.n,h.w0,h.w1,h.bnow,h.bnow,fun p hp=>by simp[Dk.settled] at hp,by simp[Dk.settled]⟩,grown_turn hg (ht1.trans ht2)⟩
 simp[World.setCell,Array.getElem?_modify,hx,Dk.settled]
set_option maxHeartbeats 2000000 in
set_option maxRecDepth 100000 in
theorem dsync1 {cb:Nat} (h:DAt own W db sb nb lv d) (hcb:W.cell? ⟨cb,0,none⟩=some (.pointer (some ⟨db,0,none⟩))) (hne:db≠cb):Calls Tryz.prog 103 #[.pointer (some ⟨cb,0,none⟩)] W (DPost own W db d.settled (.tuple #[])):=by
 obtain⟨c0,c1,c2,c3,c4,c5,c6,y⟩:=h.cells
 have HC:Hid (Calls Tryz.prog 104 #[.map (some nb)] W.drew fun e w'=>e = .returned (.map (some W.heap.size))∧MapT w' W.heap.size (Value.int .i64) encB d.now∧W.grownBy w' none∧W.heap.size<w'.heap.size):=((mclone (W:=W.drew) h.now).mono fun e w' ⟨a,b,c,d⟩=>⟨a,b,⟨c.os,c.tape,c.output,c.size,c.block⟩,d⟩)
 go_enter Tryz.func103,Tryz.ntmps103
 refine wp_region_held_drew (S:=fun w':World=>w'.cell? ⟨cb,0,none⟩=some (.pointer (some ⟨db,0,none⟩))∧w'.cell? ⟨db,2,none⟩=some (.map (some nb))) (by kernel_rfl) ⟨hcb,c2⟩ (fun hHeld=>?_)
 refine wpAnyH_take (i := 0) (oi := { dst := some 1, op := Op.load 28 (Operand.tmp 0), type := 28, pos := "disk.go:99", after := #[], guard := none }) (v := ?_) rfl (by kernel_rfl) (by kernel_rfl) (by kernel_rfl) (fun _ _ _ h => h) (Or.inl ⟨by rfl, ?_⟩) hHeld ?_
 rotate_left
 ·intro w hSw;(try dsimp only at hSw);obtain⟨s1,s2⟩:=hSw;go_simp;try with_reducible rfl
 (try simp only[Act.put,List.setIfInBounds_toArray,List.set_cons_zero,List.set_cons_succ])
 refine wpAnyH_take (i := 1) (oi := { dst := some 2, op := Op.load 28 (Operand.tmp 0), type := 28, pos := "disk.go:99", after := #[], guard := none }) (v := ?_) rfl (by kernel_rfl) (by kernel_rfl) (by kernel_rfl) (fun _ _ _ h => h) (Or.inl ⟨by rfl, ?_⟩) hHeld ?_
 rotate_left
 ·intro w hSw;(try dsimp only at hSw);obtain⟨s1,s2⟩:=hSw;go_simp;try with_reducible rfl
 (try simp only[Act.put,List.setIfInBounds_toArray,List.set_cons_zero,List.set_cons_succ])
 refine wpAnyH_take (i := 2) (oi := { dst := some 3, op := Op.load 28 (Operand.tmp 0), type := 28, pos := "disk.go:99", after := #[], guard := none }) (v := ?_) rfl (by kernel_rfl) (by kernel_rfl) (by kernel_rfl) (fun _ _ _ h => h) (Or.inl ⟨by rfl, ?_⟩) hHeld ?_
 rotate_left
 ·intro w hSw;(try dsimp only at hSw);obtain⟨s1,s2⟩:=hSw;go_simp;try with_reducible rfl
 (try simp only[Act.put,List.setIfInBounds_toArray,List.set_cons_zero,List.set_cons_succ])
 refine wpAnyH_take (i := 3) (oi := { dst := some 4, op := Op.nilCheck (Operand.tmp 3), type := 0, pos := "disk.go:99", after := #[{ on := 2, ground := Ground.data }], guard := none }) (v := ?_) rfl (by kernel_rfl) (by kernel_rfl) (by kernel_rfl) (fun _ _ _ h => h) (Or.inl ⟨by rfl, ?_⟩) hHeld ?_
 rotate_left
 ·intro w hSw;(try dsimp only at hSw);obtain⟨s1,s2⟩:=hSw;go_simp;try with_reducible rfl
 (try simp only[Act.put,List.setIfInBounds_toArray,List.set_cons_zero,List.set_cons_succ])
 refine wpAnyH_take (i := 4) (oi := { dst := some 5, op := Op.fieldAddr 167 (Operand.tmp 4) 2, type := 0, pos := "disk.go:99", after := #[{ on := 3, ground := Ground.data }], guard := none }) (v := ?_) rfl (by kernel_rfl) (by kernel_rfl) (by kernel_rfl) (fun _ _ _ h => h) (Or.inl ⟨by rfl, ?_⟩) hHeld ?_
 rotate_left
 ·intro w hSw;(try dsimp only at hSw);obtain⟨s1,s2⟩:=hSw;go_simp;try with_reducible rfl
 (try simp only[Act.put,List.setIfInBounds_toArray,List.set_cons_zero,List.set_cons_succ])
 refine wpAnyH_take (i := 5) (oi := { dst := some 6, op := Op.load 164 (Operand.tmp 5), type := 164, pos := "disk.go:99", after := #[{ on := 4, ground := Ground.data }], guard := none }) (v := ?_) rfl (by kernel_rfl) (by kernel_rfl) (by kernel_rfl) (fun _ _ _ h => h) (Or.inl ⟨by rfl, ?_⟩) hHeld ?_
 rotate_left
 ·intro w hSw;(try dsimp only at hSw);obtain⟨s1,s2⟩:=hSw;go_simp;try with_reducible rfl
 (try simp only[Act.put,List.setIfInBounds_toArray,List.set_cons_zero,List.set_cons_succ])
 refine wpAnyH_ready (rs:=[6]) (by kernel_rfl) (by simp) ?_
 refine AllReadyH.cons (o := { dst := some 7, op := Op.call { callee := Callee.value (Operand.func 104), args := #[Operand.tmp 6], argTypes := #[164] }, type := 164, pos := "disk.go:99", after := #[{ on := 5, ground := Ground.data }], guard := none }) rfl (fun K hK => ?_) AllReadyH.nil
 go_simp
 go_at_call 104
 refine HC.out.mono ?_
 rintro e w1 ⟨rfl,hm,hg,-⟩
 have HQ:=Lib.hid (h.cloned hm hg (Nat.le_refl _))
 have b1:(w1.cell? ⟨db,1,none⟩)=some (.map (some sb)):=hg.cell c1 (by simp)
 have b3:(w1.cell? ⟨db,3,none⟩)=some lv:=hg.cell c3 (by simp)
 have y1:∀i,w1.frozen? ⟨db,i,none⟩=false:=fun i=>by have hb:=(hg.block db h.dlt (by simp)).trans h.box;simp[World.frozen?,hb]
 have s1:w1.cell? ⟨cb,0,none⟩=some (.pointer (some ⟨db,0,none⟩)):=hg.cell hcb (by simp)
 have s2:w1.cell? ⟨db,2,none⟩=some (.map (some nb)):=hg.cell c2 (by simp)
 clear hm hg
 refine hK.out _ _ ⟨s1,s2⟩ (fun hHeld=>?_)
 clear hK K
 (try simp only[Act.put,List.setIfInBounds_toArray,List.set_cons_zero,List.set_cons_succ])
 refine wpAnyH_take (i := 7) (oi := { dst := some 8, op := Op.nilCheck (Operand.tmp 1), type := 0, pos := "disk.go:99", after := #[{ on := 0, ground := Ground.data }, { on := 0, ground := Ground.phase }, { on := 1, ground := Ground.textOnly Departure.inlinedCapture }, { on := 2, ground := Ground.phase }, { on := 3, ground := Ground.phase }, { on := 4, ground := Ground.phase }, { on := 5, ground := Ground.phase }, { on := 6, ground := Ground.phase }], guard := none }) (v := ?_) rfl (by kernel_rfl) (by kernel_rfl) (by kernel_rfl) (fun _ _ _ h => h) (Or.inl ⟨by rfl, ?_⟩) hHeld ?_
 rotate_left
 ·intro w hSw;(try dsimp only at hSw);obtain⟨-,-⟩:=hSw;go_simp;try with_reducible rfl
 (try simp only[Act.put,List.setIfInBounds_toArray,List.set_cons_zero,List.set_cons_succ])
 refine wpAnyH_take (i := 8) (oi := { dst := some 9, op := Op.fieldAddr 167 (Operand.tmp 8) 1, type := 0, pos := "disk.go:99", after := #[{ on := 7, ground := Ground.data }, { on := 0, ground := Ground.phase }, { on := 1, ground := Ground.textOnly Departure.inlinedCapture }, { on := 2, ground := Ground.phase }, { on := 3, ground := Ground.phase }, { on := 4, ground := Ground.phase }, { on := 5, ground := Ground.phase }, { on := 6, ground := Ground.phase }], guard := none }) (v := ?_) rfl (by kernel_rfl) (by kernel_rfl) (by kernel_rfl) (fun _ _ _ h => h) (Or.inl ⟨by rfl, ?_⟩) hHeld ?_
 rotate_left
 ·intro w hSw;(try dsimp only at hSw);obtain⟨-,-⟩:=hSw;go_simp;try with_reducible rfl
 (try simp only[Act.put,List.setIfInBounds_toArray,List.set_cons_zero,List.set_cons_succ])
 refine wpAnyH_ready (rs:=[9]) (by kernel_rfl) (by simp) ?_
 refine AllReadyH.cons (o := { dst := none, op := Op.store 164 (Operand.tmp 9) (Operand.tmp 7), type := 0, pos := "disk.go:99", after := #[{ on := 8, ground := Ground.data }, { on := 6, ground := Ground.data }, { on := 6, ground := Ground.chain }, { on := 0, ground := Ground.phase }, { on := 1, ground := Ground.textOnly Departure.inlinedCapture }, { on := 2, ground := Ground.phase }, { on := 3, ground := Ground.phase }, { on := 4, ground := Ground.phase }, { on := 5, ground := Ground.phase }, { on := 6, ground := Ground.phase }], guard := none }) rfl (fun K hK => ?_) AllReadyH.nil
 go_simp
 refine hK.out _ _ ⟨cell_far (Or.inl (Ne.symm hne)) hHeld.1,cell_far (Or.inr (by decide)) hHeld.2⟩ (fun hHeld=>?_)
 clear hK K
 (try simp only[Act.put,List.setIfInBounds_toArray,List.set_cons_zero,List.set_cons_succ])
 refine wpAnyH_take (i := 10) (oi := { dst := some 10, op := Op.nilCheck (Operand.tmp 2), type := 0, pos := "disk.go:99", after := #[{ on := 1, ground := Ground.data }, { on := 0, ground := Ground.phase }, { on := 1, ground := Ground.phase }, { on := 2, ground := Ground.phase }, { on := 3, ground := Ground.phase }, { on := 4, ground := Ground.phase }, { on := 5, ground := Ground.phase }, { on := 6, ground := Ground.phase }, { on := 7, ground := Ground.phase }, { on := 8, ground := Ground.phase }, { on := 9, ground := Ground.phase }], guard := none }) (v := ?_) rfl (by kernel_rfl) (by kernel_rfl) (by kernel_rfl) (fun _ _ _ h => h) (Or.inl ⟨by rfl, ?_⟩) hHeld ?_
 rotate_left
 ·intro w hSw;(try dsimp only at hSw);obtain⟨-,-⟩:=hSw;go_simp;try with_reducible rfl
 (try simp only[Act.put,List.setIfInBounds_toArray,List.set_cons_zero,List.set_cons_succ])
 refine wpAnyH_take (i := 11) (oi := { dst := some 11, op := Op.fieldAddr 167 (Operand.tmp 10) 3, type := 0, pos := "disk.go:99", after := #[{ on := 10, ground := Ground.data }, { on := 0, ground := Ground.phase }, { on := 1, ground := Ground.phase }, { on := 2, ground := Ground.phase }, { on := 3, ground := Ground.phase }, { on := 4, ground := Ground.phase }, { on := 5, ground := Ground.phase }, { on := 6, ground := Ground.phase }, { on := 7, ground := Ground.phase }, { on := 8, ground := Ground.phase }, { on := 9, ground := Ground.phase }], guard := none }) (v := ?_) rfl (by kernel_rfl) (by kernel_rfl) (by kernel_rfl) (fun _ _ _ h => h) (Or.inl ⟨by rfl, ?_⟩) hHeld ?_
 rotate_left
 ·intro w hSw;(try dsimp only at hSw);obtain⟨-,-⟩:=hSw;go_simp;try with_reducible rfl
 (try simp only[Act.put,List.setIfInBounds_toArray,List.set_cons_zero,List.set_cons_succ])
 refine wpAnyH_ready (rs:=[12]) (by kernel_rfl) (by simp) ?_
 refine AllReadyH.cons (o := { dst := none, op := Op.store 165 (Operand.tmp 11) (Operand.const (Value.slice none 0 0)), type := 0, pos := "disk.go:99", after := #[{ on := 11, ground := Ground.data }, { on := 9, ground := Ground.chain }, { on := 0, ground := Ground.phase }, { on := 1, ground := Ground.phase }, { on := 2, ground := Ground.phase }, { on := 3, ground := Ground.phase }, { on := 4, ground := Ground.phase }, { on := 5, ground := Ground.phase }, { on := 6, ground := Ground.phase }, { on := 7, ground := Ground.phase }, { on := 8, ground := Ground.phase }, { on := 9, ground := Ground.phase }], guard := none }) rfl (fun K hK => ?_) AllReadyH.nil
 go_simp
 refine hK.out _ _ ⟨cell_far (Or.inl (Ne.symm hne)) hHeld.1,cell_far (Or.inr (by decide)) hHeld.2⟩ (fun hHeld=>?_)
 clear hK K
 (try simp only[Act.put,List.setIfInBounds_toArray,List.set_cons_zero,List.set_cons_succ])
 refine wpAnyH_done (by kernel_rfl) ?_ _
 go_wp2_with fail
 first|go_end0|refine bodyPost_ret (results_none rfl _ _ _) rfl ?_
 exact⟨rfl,⟨_,_,_,HQ.out.1⟩,HQ.out.2⟩
end
theorem wrap_succ (a:Int):wrap64 (wrap64 a+1)=wrap64 (a+1):=by unfold wrap64;omega
set_option maxRecDepth 100000 in
theorem dwrite1 (W:World):Calls Tryz.prog 102 #[] W fun e w'=>e = .returned (.tuple #[])∧w'=W:=by
 go_enter Tryz.func102,Tryz.ntmps102
 go_wp2
 first|go_end0|refine bodyPost_ret (results_none rfl _ _ _) rfl ?_
 exact⟨rfl,rfl⟩
section
variable {own : Nat → Prop} {W W' : World} {db sb nb : Nat} {lv : Value} {d : Dk}
theorem DAt.step (h:DAt own W db sb nb lv d):DAt own (W.setCell ⟨db,4,none⟩ (.int .i64 (wrap64 (wrap64 d.steps+1)))) db sb nb lv { d with steps:=d.steps+1 }:=
 h.set 4 _ { d with steps:=d.steps+1 } (by rw[wrap_succ];rfl) rfl rfl rfl rfl h.w0 h.w1
theorem DAt.went (h:DAt own W db sb nb lv { d with steps:=d.steps+1 }) {m:Int} (hm:m=max (-1) (d.well-1)):DAt own (W.setCell ⟨db,5,none⟩ (.int .i64 m)) db sb nb lv d.went:=by
 subst hm
 have h0 : -1≤d.well:=h.w0
 have h1:d.well<9223372036854775808:=h.w1
 exact h.set 5 _ d.went rfl rfl rfl rfl rfl (by show -1≤max (-1) (d.well-1);omega) (by show max (-1) (d.well-1)<_;omega)
set_option maxHeartbeats 2000000 in
set_option maxRecDepth 100000 in
theorem dstepW (h:DAt own W db sb nb lv d):Calls Tryz.prog 101 #[.pointer (some ⟨db,0,none⟩),.func (.func 102) #[] #[]] W (if d.stepB=true then DPost own W db d.went (.int .i64 0) else DPost own W db d.gone (.int .i64 180)):=by
 have h1:=h.step
 have w0:=h.w0
 have w1:=h.w1
 obtain⟨c0,c1,c2,c3,c4,c5,c6,y⟩:=h.cells
 have HC:Hid (∀m,m=max (-1) (d.well-1)→DAt own ((W.setCell ⟨db,4,none⟩ (.int .i64 (wrap64 (wrap64 d.steps+1)))).setCell ⟨db,5,none⟩ (.int .i64 m)) db sb nb lv d.went∧Turn (fun k=>¬own k) W ((W.setCell ⟨db,4,none⟩ (.int .i64 (wrap64 (wrap64 d.steps+1)))).setCell ⟨db,5,none⟩ (.int .i64 m))):=(fun m hm=>⟨h1.went hm,(turn_own h _ _).trans (turn_own h1 _ _)⟩)
 by_cases hw:d.well=0
 ·rw[if_neg (by simp[Dk.stepB,hw])]
  have HCR:Hid (Calls Tryz.prog 41 #[.pointer (some ⟨db,0,none⟩)] (W.setCell ⟨db,4,none⟩ (.int .i64 (wrap64 (wrap64 d.steps+1)))) (DPost own (W.setCell ⟨db,4,none⟩ (.int .i64 (wrap64 (wrap64 d.steps+1)))) db d.gone (.tuple #[]))):=(show Calls _ _ _ _ _ from dcrash ⟨_,_,_,h1⟩)
  have HT1:=Lib.hid (turn_own h 4 (.int .i64 (wrap64 (wrap64 d.steps+1))))
  clear h h1
  generalize d.steps=st at *
  generalize d.n=dn at *
  rw[hw] at c5
  go_enter Tryz.func101,Tryz.ntmps101
  go_wp2_with (go_at_call 41;refine HCR.out.mono ?_;rintro e w1 ⟨rfl,hd,ht⟩;have HD:=Lib.hid hd;have HT:=Lib.hid ht;clear hd ht)
  go_ret
  exact⟨rfl,HD.out,HT1.out.trans HT.out⟩
 ·rw[if_pos (by simp[Dk.stepB,hw])]
  clear h h1
  go_enter Tryz.func101,Tryz.ntmps101
  go_wp2_with (go_at_call 102;refine(dwrite1 _).mono ?_;rintro e w1 ⟨rfl,h5⟩;subst h5)
  all_goals go_ret
  all_goals exact⟨rfl,⟨_,_,_,(HC.out _ (by omega)).1⟩,(HC.out _ (by omega)).2⟩
set_option maxHeartbeats 2000000 in
set_option maxRecDepth 100000 in
theorem dstepS (h:DAt own W db sb nb lv d) {cb:Nat} (hcb:W.cell? ⟨cb,0,none⟩=some (.pointer (some ⟨db,0,none⟩))) (hne:db≠cb):Calls Tryz.prog 101 #[.pointer (some ⟨db,0,none⟩),.func (.func 103) #[] #[.pointer (some ⟨cb,0,none⟩)]] W (if d.stepB=true then DPost own W db d.went.settled (.int .i64 0) else DPost own W db d.gone (.int .i64 180)):=by
 have h1:=h.step
 have w0:=h.w0
 have w1:=h.w1
 obtain⟨c0,c1,c2,c3,c4,c5,c6,y⟩:=h.cells
 have HT0:Hid (∀m,Turn (fun k=>¬own k) W ((W.setCell ⟨db,4,none⟩ (.int .i64 (wrap64 (wrap64 d.steps+1)))).setCell ⟨db,5,none⟩ (.int .i64 m))):=(fun m=>(turn_own h _ _).trans (turn_own h1 _ _))
 have HC:Hid (∀m,m=max (-1) (d.well-1)→Calls Tryz.prog 103 #[.pointer (some ⟨cb,0,none⟩)] ((W.setCell ⟨db,4,none⟩ (.int .i64 (wrap64 (wrap64 d.steps+1)))).setCell ⟨db,5,none⟩ (.int .i64 m)) (DPost own ((W.setCell ⟨db,4,none⟩ (.int .i64 (wrap64 (wrap64 d.steps+1)))).setCell ⟨db,5,none⟩ (.int .i64 m)) db d.went.settled (.tuple #[]))):=(fun m hm=>dsync1 (h1.went hm) (cell_far (Or.inl (Ne.symm hne)) (cell_far (Or.inl (Ne.symm hne)) hcb)) hne)
 by_cases hw:d.well=0
 ·rw[if_neg (by simp[Dk.stepB,hw])]
  have HCR:Hid (Calls Tryz.prog 41 #[.pointer (some ⟨db,0,none⟩)] (W.setCell ⟨db,4,none⟩ (.int .i64 (wrap64 (wrap64 d.steps+1)))) (DPost own (W.setCell ⟨db,4,none⟩ (.int .i64 (wrap64 (wrap64 d.steps+1)))) db d.gone (.tuple #[]))):=(show Calls _ _ _ _ _ from dcrash ⟨_,_,_,h1⟩)
  have HT1:=Lib.hid (turn_own h 4 (.int .i64 (wrap64 (wrap64 d.steps+1))))
  clear h h1
  generalize d.steps=st at *
  generalize d.n=dn at *
  rw[hw] at c5
  go_enter Tryz.func101,Tryz.ntmps101
  go_wp2_with (go_at_call 41;refine HCR.out.mono ?_;rintro e w1 ⟨rfl,hd,ht⟩;have HD:=Lib.hid hd;have HT:=Lib.hid ht;clear hd ht)
  go_ret
  exact⟨rfl,HD.out,HT1.out.trans HT.out⟩
 ·rw[if_pos (by simp[Dk.stepB,hw])]
  clear h h1
  go_enter Tryz.func101,Tryz.ntmps101
  go_wp2_with (go_at_call 103;refine(HC.out _ (by omega)).mono ?_;rintro e w1 ⟨rfl,hd,ht⟩;have HD:=Lib.hid hd;have HT:=Lib.hid ht;clear hd ht)
  all_goals go_ret
  all_goals exact⟨rfl,HD.out,(HT0.out _).trans HT.out⟩
def Dk.syncV (d:Dk):Int:=if d.off=true then 180 else if d.stepB=true then 0 else 180
def Dk.synced (d:Dk):Dk:=if d.off=true then d else if d.stepB=true then d.went.settled else d.gone
set_option maxHeartbeats 1000000 in
set_option maxRecDepth 100000 in
theorem dsync (h:DRep own W db d):Calls Tryz.prog 25 #[.pointer (some ⟨db,0,none⟩)] W (DPost own W db d.synced (.int .i64 d.syncV)):=by
 have hlt:=h.dlt
 have H:=Lib.hid h
 have HG:=Lib.hid (World.grownBy_alloc W (.cells #[.pointer (some ⟨db,0,none⟩)] 28) none)
 have H2:=Lib.hid (h.kept HG.out)
 obtain⟨sb,nb,lv,h⟩:=h.ex
 obtain⟨c0,c1,c2,c3,c4,c5,c6,y⟩:=h.cells
 clear h
 cases ho:d.off
 ·have HS:Hid (Calls Tryz.prog 101 #[.pointer (some ⟨db,0,none⟩),.func (.func 103) #[] #[.pointer (some ⟨W.heap.size,0,none⟩)]] (W.alloc (.cells #[.pointer (some ⟨db,0,none⟩)] 28)) (DPost own (W.alloc (.cells #[.pointer (some ⟨db,0,none⟩)] 28)) db d.synced (.int .i64 d.syncV))):=(by
   obtain⟨sb,nb,lv,h2⟩:=H2.out.ex
   have hs:=dstepS h2 (cb:=W.heap.size) (by simp) (by omega)
   refine hs.mono fun e w' hp=>?_
   unfold Dk.synced Dk.syncV
   rw[ho]
   simp only[Bool.false_eq_true,if_false]
   split at hp <;> rename_i hb <;> simp only[hb] <;> exact hp)
  rw[ho] at c6
  have hmf:∀(fn:Fn) (first cap:Array Value) (w:World),(Instr.makeFunc fn first cap).run Tryz.prog w = .ok (.func fn first cap) w:=fun _ _ _ _=>rfl
  go_enter Tryz.func25,Tryz.ntmps25
  go_wp2_with (go_at_call 101;refine HS.out.mono ?_;rintro e w1 ⟨rfl,hd,ht⟩;have HD:=Lib.hid hd;have HT:=Lib.hid ht;clear hd ht)
  go_ret
  exact⟨rfl,HD.out,grown_turn HG.out HT.out⟩
 ·unfold Dk.synced Dk.syncV
  rw[ho]
  rw[ho] at c6
  go_enter Tryz.func25,Tryz.ntmps25
  go_wp2
  go_ret
  exact⟨rfl,H2.out,grown_turn HG.out (Turn.refl _ _)⟩
end
end Go.Proofs.YtbcbhlfjgobejaaGreat
