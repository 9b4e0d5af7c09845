/- table.Put at each kind. Conditions: none, or as the theorems say. -/
import Derived.Test.YtjfelfjobeeenaaGreatN4
import Derived.Recover
import Derived.Laws.BytesString
import Derived.Laws.Slices
import Derived.Laws.BitsLemmas
import Derived.Laws.BytesArg
namespace Go.Proofs.YtjfelfjobeeenaaGreat
set_option maxHeartbeats 200000000
set_option linter.unusedVariables false
set_option linter.unusedSimpArgs false
open Go.RowKit Go.Sf
theorem PSt.cells {W w:World} {wb:Nat} {v:Value} {l:List Int} {a0 a1 a2 a3 a4 a5 a6 a7:Value} {t:TypeId} (h:PSt (W.alloc (.cells #[a0,a1,a2,a3,a4,a5,a6,a7] t)) wb v l w) :
  w.cell? ⟨W.heap.size,0,none⟩=some a0∧w.cell? ⟨W.heap.size,1,none⟩=some a1∧w.cell? ⟨W.heap.size,2,none⟩=some a2∧w.cell? ⟨W.heap.size,3,none⟩=some a3∧w.cell? ⟨W.heap.size,4,none⟩=some a4∧w.cell? ⟨W.heap.size,5,none⟩=some a5∧w.cell? ⟨W.heap.size,6,none⟩=some a6∧w.cell? ⟨W.heap.size,7,none⟩=some a7:=by
 have e:=(h.grown.block W.heap.size (by simp) (by simp)).trans (heap_alloc_new W _)
 refine⟨?_,?_,?_,?_,?_,?_,?_,?_⟩ <;> simp[World.cell?,e]
def Xi (W:World) (c:Cmd) (e:Ending) (w':World):Prop:=
 ∃v',e = .returned (.tuple #[v',.int .i64 0])∧w'.ownsRow W.heap.size 5 1 v' (xm c).length (zu (xm c))∧W.grownBy w' none
theorem zan {W w':World} {c:Cmd} {b:Obj} {l:List Int} {v':Value} {n:Nat} (h:w'.ownsRow (W.alloc b).heap.size 5 1 v' l.length (zu l)) (hg:(W.alloc b).grownBy w' none) (hl:l=xm c):Xi W c (.returned (.tuple #[v',.int .i64 0])) w':=by
 subst hl
 exact⟨v',rfl,Vk h (by simp),ze (zc W b none) hg⟩
set_option maxRecDepth 100000 in
theorem put_1 (node zvw zvx zvy zvz code:Int) (key:ByteArray) (W:World) (hm:ua ⟨1,node,zvw,zvx,zvy,zvz,key,code⟩=true) :
  Calls Tryz.prog 13 #[zp ⟨1,node,zvw,zvx,zvy,zvz,key,code⟩] W fun e w'=>Xi W ⟨1,node,zvw,zvx,zvy,zvz,key,code⟩ e w':=by
 have HF:Hid (0≤node∧node<255∧0≤zvw∧zvw≤65535∧0≤zvx∧zvx≤4611686018427387904∧0≤zvy∧zvy≤4611686018427387904∧0≤zvz∧zvz≤4611686018427387904∧0≤code∧code≤65535∧key.size≤64):=(show _∧_ from ux hm)
 have HM:Hid (∀W',Calls Tryz.prog 48 #[(.agg #[.int .u8 1,.int .i64 node,.int .i64 zvw,.int .i64 zvx,.int .i64 zvy,.int .i64 zvz,.string key,.int .i64 code]:Value)] W' fun e w'=>e = .returned (.bool true)∧W'.grownBy w' none):=(fun W'=>by
  have h:=Ys 1 node zvw zvx zvy zvz code key W' (by have:=HF.out;omega)
  rw[hm] at h
  exact h)
 clear hm;simp only[zp]
 go_enter Tryz.func13,Tryz.ntmps13
 go_wp2_with (first
  | (go_at_call 48;refine(HM.out _).mono ?_;rintro e w1 ⟨rfl,hg⟩;obtain⟨d0,d1,d2,d3,d4,d5,d6,d7⟩:=(PSt.start _ w1 hg).cells;have P:=za (PSt.start _ w1 hg);clear hg)
  | (go_at_call 49;refine(P.out.byte (by simp) 1 (by omega) (by omega)).mono ?_;clear d0 d1 d2 d3 d4 d5 d6 d7;rintro e w2 ⟨rfl,v1,hp⟩;obtain⟨d0,d1,d2,d3,d4,d5,d6,d7⟩:=hp.cells;clear P;have P:=za hp;clear hp)
  | (go_at_call 50;refine(P.out.short (by have:=HF.out;simp[yn,zy] <;> omega) _ (by have:=HF.out;omega) (by have:=HF.out;omega)).mono ?_;clear d0 d1 d2 d3 d4 d5 d6 d7;rintro e w2 ⟨rfl,v1,hp⟩;obtain⟨d0,d1,d2,d3,d4,d5,d6,d7⟩:=hp.cells;clear P;have P:=za hp;clear hp)
  | (go_at_call 51;refine(P.out.long (by have:=HF.out;simp[yn,zy] <;> omega) _ (by have:=HF.out;omega) (by have:=HF.out;omega)).mono ?_;clear d0 d1 d2 d3 d4 d5 d6 d7;rintro e w2 ⟨rfl,v1,hp⟩;obtain⟨d0,d1,d2,d3,d4,d5,d6,d7⟩:=hp.cells;clear P;have P:=za hp;clear hp)
  | (go_at_call 52;refine(P.out.text _ (by have:=HF.out;simp[yn,zy] <;> omega)).mono ?_;clear d0 d1 d2 d3 d4 d5 d6 d7;rintro e w2 ⟨rfl,v1,hp⟩;obtain⟨d0,d1,d2,d3,d4,d5,d6,d7⟩:=hp.cells;clear P;have P:=za hp;clear hp)
  | (go_at_call 53;refine(P.out.out (by have:=HF.out;simp[yn,zy] <;> omega)).mono ?_;clear d0 d1 d2 d3 d4 d5 d6 d7;rintro e w2 ⟨v',rfl,hp,hq⟩;clear P;have P:=za hp;have Q:=za hq;clear hp hq))
 go_ret2
 refine zan (n:=0) P.out Q.out ?_;simp[xm,Yo,Qw,Yr]
set_option maxRecDepth 100000 in
theorem put_2 (node zvw zvx zvy zvz code:Int) (key:ByteArray) (W:World) (hm:ua ⟨2,node,zvw,zvx,zvy,zvz,key,code⟩=true) :
  Calls Tryz.prog 13 #[zp ⟨2,node,zvw,zvx,zvy,zvz,key,code⟩] W fun e w'=>Xi W ⟨2,node,zvw,zvx,zvy,zvz,key,code⟩ e w':=by
 have HF:Hid (0≤node∧node<255∧0≤zvw∧zvw≤65535∧0≤zvx∧zvx≤4611686018427387904∧0≤zvy∧zvy≤4611686018427387904∧0≤zvz∧zvz≤4611686018427387904∧0≤code∧code≤65535∧key.size≤64):=(show _∧_ from ux hm)
 have HM:Hid (∀W',Calls Tryz.prog 48 #[(.agg #[.int .u8 2,.int .i64 node,.int .i64 zvw,.int .i64 zvx,.int .i64 zvy,.int .i64 zvz,.string key,.int .i64 code]:Value)] W' fun e w'=>e = .returned (.bool true)∧W'.grownBy w' none):=(fun W'=>by
  have h:=Ys 2 node zvw zvx zvy zvz code key W' (by have:=HF.out;omega)
  rw[hm] at h
  exact h)
 clear hm;simp only[zp]
 go_enter Tryz.func13,Tryz.ntmps13
 go_wp2_with (first
  | (go_at_call 48;refine(HM.out _).mono ?_;rintro e w1 ⟨rfl,hg⟩;obtain⟨d0,d1,d2,d3,d4,d5,d6,d7⟩:=(PSt.start _ w1 hg).cells;have P:=za (PSt.start _ w1 hg);clear hg)
  | (go_at_call 49;refine(P.out.byte (by simp) 2 (by omega) (by omega)).mono ?_;clear d0 d1 d2 d3 d4 d5 d6 d7;rintro e w2 ⟨rfl,v1,hp⟩;obtain⟨d0,d1,d2,d3,d4,d5,d6,d7⟩:=hp.cells;clear P;have P:=za hp;clear hp)
  | (go_at_call 50;refine(P.out.short (by have:=HF.out;simp[yn,zy] <;> omega) _ (by have:=HF.out;omega) (by have:=HF.out;omega)).mono ?_;clear d0 d1 d2 d3 d4 d5 d6 d7;rintro e w2 ⟨rfl,v1,hp⟩;obtain⟨d0,d1,d2,d3,d4,d5,d6,d7⟩:=hp.cells;clear P;have P:=za hp;clear hp)
  | (go_at_call 51;refine(P.out.long (by have:=HF.out;simp[yn,zy] <;> omega) _ (by have:=HF.out;omega) (by have:=HF.out;omega)).mono ?_;clear d0 d1 d2 d3 d4 d5 d6 d7;rintro e w2 ⟨rfl,v1,hp⟩;obtain⟨d0,d1,d2,d3,d4,d5,d6,d7⟩:=hp.cells;clear P;have P:=za hp;clear hp)
  | (go_at_call 52;refine(P.out.text _ (by have:=HF.out;simp[yn,zy] <;> omega)).mono ?_;clear d0 d1 d2 d3 d4 d5 d6 d7;rintro e w2 ⟨rfl,v1,hp⟩;obtain⟨d0,d1,d2,d3,d4,d5,d6,d7⟩:=hp.cells;clear P;have P:=za hp;clear hp)
  | (go_at_call 53;refine(P.out.out (by have:=HF.out;simp[yn,zy] <;> omega)).mono ?_;clear d0 d1 d2 d3 d4 d5 d6 d7;rintro e w2 ⟨v',rfl,hp,hq⟩;clear P;have P:=za hp;have Q:=za hq;clear hp hq))
 go_ret2
 refine zan (n:=0) P.out Q.out ?_;simp[xm,Yo,Qw,Yr]
set_option maxRecDepth 100000 in
theorem put_3 (node zvw zvx zvy zvz code:Int) (key:ByteArray) (W:World) (hm:ua ⟨3,node,zvw,zvx,zvy,zvz,key,code⟩=true) :
  Calls Tryz.prog 13 #[zp ⟨3,node,zvw,zvx,zvy,zvz,key,code⟩] W fun e w'=>Xi W ⟨3,node,zvw,zvx,zvy,zvz,key,code⟩ e w':=by
 have HF:Hid (0≤node∧node<255∧0≤zvw∧zvw≤65535∧0≤zvx∧zvx≤4611686018427387904∧0≤zvy∧zvy≤4611686018427387904∧0≤zvz∧zvz≤4611686018427387904∧0≤code∧code≤65535∧key.size≤64):=(show _∧_ from ux hm)
 have HM:Hid (∀W',Calls Tryz.prog 48 #[(.agg #[.int .u8 3,.int .i64 node,.int .i64 zvw,.int .i64 zvx,.int .i64 zvy,.int .i64 zvz,.string key,.int .i64 code]:Value)] W' fun e w'=>e = .returned (.bool true)∧W'.grownBy w' none):=(fun W'=>by
  have h:=Ys 3 node zvw zvx zvy zvz code key W' (by have:=HF.out;omega)
  rw[hm] at h
  exact h)
 clear hm;simp only[zp]
 go_enter Tryz.func13,Tryz.ntmps13
 go_wp2_with (first
  | (go_at_call 48;refine(HM.out _).mono ?_;rintro e w1 ⟨rfl,hg⟩;obtain⟨d0,d1,d2,d3,d4,d5,d6,d7⟩:=(PSt.start _ w1 hg).cells;have P:=za (PSt.start _ w1 hg);clear hg)
  | (go_at_call 49;refine(P.out.byte (by simp) 3 (by omega) (by omega)).mono ?_;clear d0 d1 d2 d3 d4 d5 d6 d7;rintro e w2 ⟨rfl,v1,hp⟩;obtain⟨d0,d1,d2,d3,d4,d5,d6,d7⟩:=hp.cells;clear P;have P:=za hp;clear hp)
  | (go_at_call 50;refine(P.out.short (by have:=HF.out;simp[yn,zy] <;> omega) _ (by have:=HF.out;omega) (by have:=HF.out;omega)).mono ?_;clear d0 d1 d2 d3 d4 d5 d6 d7;rintro e w2 ⟨rfl,v1,hp⟩;obtain⟨d0,d1,d2,d3,d4,d5,d6,d7⟩:=hp.cells;clear P;have P:=za hp;clear hp)
  | (go_at_call 51;refine(P.out.long (by have:=HF.out;simp[yn,zy] <;> omega) _ (by have:=HF.out;omega) (by have:=HF.out;omega)).mono ?_;clear d0 d1 d2 d3 d4 d5 d6 d7;rintro e w2 ⟨rfl,v1,hp⟩;obtain⟨d0,d1,d2,d3,d4,d5,d6,d7⟩:=hp.cells;clear P;have P:=za hp;clear hp)
  | (go_at_call 52;refine(P.out.text _ (by have:=HF.out;simp[yn,zy] <;> omega)).mono ?_;clear d0 d1 d2 d3 d4 d5 d6 d7;rintro e w2 ⟨rfl,v1,hp⟩;obtain⟨d0,d1,d2,d3,d4,d5,d6,d7⟩:=hp.cells;clear P;have P:=za hp;clear hp)
  | (go_at_call 53;refine(P.out.out (by have:=HF.out;simp[yn,zy] <;> omega)).mono ?_;clear d0 d1 d2 d3 d4 d5 d6 d7;rintro e w2 ⟨v',rfl,hp,hq⟩;clear P;have P:=za hp;have Q:=za hq;clear hp hq))
 go_ret2
 refine zan (n:=0) P.out Q.out ?_;simp[xm,Yo,Qw,Yr]
set_option maxRecDepth 100000 in
theorem put_4 (node zvw zvx zvy zvz code:Int) (key:ByteArray) (W:World) (hm:ua ⟨4,node,zvw,zvx,zvy,zvz,key,code⟩=true) :
  Calls Tryz.prog 13 #[zp ⟨4,node,zvw,zvx,zvy,zvz,key,code⟩] W fun e w'=>Xi W ⟨4,node,zvw,zvx,zvy,zvz,key,code⟩ e w':=by
 have HF:Hid (0≤node∧node<255∧0≤zvw∧zvw≤65535∧0≤zvx∧zvx≤4611686018427387904∧0≤zvy∧zvy≤4611686018427387904∧0≤zvz∧zvz≤4611686018427387904∧0≤code∧code≤65535∧key.size≤64):=(show _∧_ from ux hm)
 have HM:Hid (∀W',Calls Tryz.prog 48 #[(.agg #[.int .u8 4,.int .i64 node,.int .i64 zvw,.int .i64 zvx,.int .i64 zvy,.int .i64 zvz,.string key,.int .i64 code]:Value)] W' fun e w'=>e = .returned (.bool true)∧W'.grownBy w' none):=(fun W'=>by
  have h:=Ys 4 node zvw zvx zvy zvz code key W' (by have:=HF.out;omega)
  rw[hm] at h
  exact h)
 clear hm;simp only[zp]
 go_enter Tryz.func13,Tryz.ntmps13
 go_wp2_with (first
  | (go_at_call 48;refine(HM.out _).mono ?_;rintro e w1 ⟨rfl,hg⟩;obtain⟨d0,d1,d2,d3,d4,d5,d6,d7⟩:=(PSt.start _ w1 hg).cells;have P:=za (PSt.start _ w1 hg);clear hg)
  | (go_at_call 49;refine(P.out.byte (by simp) 4 (by omega) (by omega)).mono ?_;clear d0 d1 d2 d3 d4 d5 d6 d7;rintro e w2 ⟨rfl,v1,hp⟩;obtain⟨d0,d1,d2,d3,d4,d5,d6,d7⟩:=hp.cells;clear P;have P:=za hp;clear hp)
  | (go_at_call 50;refine(P.out.short (by have:=HF.out;simp[yn,zy] <;> omega) _ (by have:=HF.out;omega) (by have:=HF.out;omega)).mono ?_;clear d0 d1 d2 d3 d4 d5 d6 d7;rintro e w2 ⟨rfl,v1,hp⟩;obtain⟨d0,d1,d2,d3,d4,d5,d6,d7⟩:=hp.cells;clear P;have P:=za hp;clear hp)
  | (go_at_call 51;refine(P.out.long (by have:=HF.out;simp[yn,zy] <;> omega) _ (by have:=HF.out;omega) (by have:=HF.out;omega)).mono ?_;clear d0 d1 d2 d3 d4 d5 d6 d7;rintro e w2 ⟨rfl,v1,hp⟩;obtain⟨d0,d1,d2,d3,d4,d5,d6,d7⟩:=hp.cells;clear P;have P:=za hp;clear hp)
  | (go_at_call 52;refine(P.out.text _ (by have:=HF.out;simp[yn,zy] <;> omega)).mono ?_;clear d0 d1 d2 d3 d4 d5 d6 d7;rintro e w2 ⟨rfl,v1,hp⟩;obtain⟨d0,d1,d2,d3,d4,d5,d6,d7⟩:=hp.cells;clear P;have P:=za hp;clear hp)
  | (go_at_call 53;refine(P.out.out (by have:=HF.out;simp[yn,zy] <;> omega)).mono ?_;clear d0 d1 d2 d3 d4 d5 d6 d7;rintro e w2 ⟨v',rfl,hp,hq⟩;clear P;have P:=za hp;have Q:=za hq;clear hp hq))
 go_ret2
 refine zan (n:=0) P.out Q.out ?_;simp[xm,Yo,Qw,Yr]
set_option maxRecDepth 100000 in
theorem put_5 (node zvw zvx zvy zvz code:Int) (key:ByteArray) (W:World) (hm:ua ⟨5,node,zvw,zvx,zvy,zvz,key,code⟩=true) :
  Calls Tryz.prog 13 #[zp ⟨5,node,zvw,zvx,zvy,zvz,key,code⟩] W fun e w'=>Xi W ⟨5,node,zvw,zvx,zvy,zvz,key,code⟩ e w':=by
 have HF:Hid (0≤node∧node<255∧0≤zvw∧zvw≤65535∧0≤zvx∧zvx≤4611686018427387904∧0≤zvy∧zvy≤4611686018427387904∧0≤zvz∧zvz≤4611686018427387904∧0≤code∧code≤65535∧key.size≤64):=(show _∧_ from ux hm)
 have HM:Hid (∀W',Calls Tryz.prog 48 #[(.agg #[.int .u8 5,.int .i64 node,.int .i64 zvw,.int .i64 zvx,.int .i64 zvy,.int .i64 zvz,.string key,.int .i64 code]:Value)] W' fun e w'=>e = .returned (.bool true)∧W'.grownBy w' none):=(fun W'=>by
  have h:=Ys 5 node zvw zvx zvy zvz code key W' (by have:=HF.out;omega)
  rw[hm] at h
  exact h)
 clear hm;simp only[zp]
 go_enter Tryz.func13,Tryz.ntmps13
 go_wp2_with (first
  | (go_at_call 48;refine(HM.out _).mono ?_;rintro e w1 ⟨rfl,hg⟩;obtain⟨d0,d1,d2,d3,d4,d5,d6,d7⟩:=(PSt.start _ w1 hg).cells;have P:=za (PSt.start _ w1 hg);clear hg)
  | (go_at_call 49;refine(P.out.byte (by simp) 5 (by omega) (by omega)).mono ?_;clear d0 d1 d2 d3 d4 d5 d6 d7;rintro e w2 ⟨rfl,v1,hp⟩;obtain⟨d0,d1,d2,d3,d4,d5,d6,d7⟩:=hp.cells;clear P;have P:=za hp;clear hp)
  | (go_at_call 50;refine(P.out.short (by have:=HF.out;simp[yn,zy] <;> omega) _ (by have:=HF.out;omega) (by have:=HF.out;omega)).mono ?_;clear d0 d1 d2 d3 d4 d5 d6 d7;rintro e w2 ⟨rfl,v1,hp⟩;obtain⟨d0,d1,d2,d3,d4,d5,d6,d7⟩:=hp.cells;clear P;have P:=za hp;clear hp)
  | (go_at_call 51;refine(P.out.long (by have:=HF.out;simp[yn,zy] <;> omega) _ (by have:=HF.out;omega) (by have:=HF.out;omega)).mono ?_;clear d0 d1 d2 d3 d4 d5 d6 d7;rintro e w2 ⟨rfl,v1,hp⟩;obtain⟨d0,d1,d2,d3,d4,d5,d6,d7⟩:=hp.cells;clear P;have P:=za hp;clear hp)
  | (go_at_call 52;refine(P.out.text _ (by have:=HF.out;simp[yn,zy] <;> omega)).mono ?_;clear d0 d1 d2 d3 d4 d5 d6 d7;rintro e w2 ⟨rfl,v1,hp⟩;obtain⟨d0,d1,d2,d3,d4,d5,d6,d7⟩:=hp.cells;clear P;have P:=za hp;clear hp)
  | (go_at_call 53;refine(P.out.out (by have:=HF.out;simp[yn,zy] <;> omega)).mono ?_;clear d0 d1 d2 d3 d4 d5 d6 d7;rintro e w2 ⟨v',rfl,hp,hq⟩;clear P;have P:=za hp;have Q:=za hq;clear hp hq))
 go_ret2
 refine zan (n:=0) P.out Q.out ?_;simp[xm,Yo,Qw,Yr]
set_option maxRecDepth 100000 in
theorem put_6 (node zvw zvx zvy zvz code:Int) (key:ByteArray) (W:World) (hm:ua ⟨6,node,zvw,zvx,zvy,zvz,key,code⟩=true) :
  Calls Tryz.prog 13 #[zp ⟨6,node,zvw,zvx,zvy,zvz,key,code⟩] W fun e w'=>Xi W ⟨6,node,zvw,zvx,zvy,zvz,key,code⟩ e w':=by
 have HF:Hid (0≤node∧node<255∧0≤zvw∧zvw≤65535∧0≤zvx∧zvx≤4611686018427387904∧0≤zvy∧zvy≤4611686018427387904∧0≤zvz∧zvz≤4611686018427387904∧0≤code∧code≤65535∧key.size≤64):=(show _∧_ from ux hm)
 have HM:Hid (∀W',Calls Tryz.prog 48 #[(.agg #[.int .u8 6,.int .i64 node,.int .i64 zvw,.int .i64 zvx,.int .i64 zvy,.int .i64 zvz,.string key,.int .i64 code]:Value)] W' fun e w'=>e = .returned (.bool true)∧W'.grownBy w' none):=(fun W'=>by
  have h:=Ys 6 node zvw zvx zvy zvz code key W' (by have:=HF.out;omega)
  rw[hm] at h
  exact h)
 clear hm;simp only[zp]
 go_enter Tryz.func13,Tryz.ntmps13
 go_wp2_with (first
  | (go_at_call 48;refine(HM.out _).mono ?_;rintro e w1 ⟨rfl,hg⟩;obtain⟨d0,d1,d2,d3,d4,d5,d6,d7⟩:=(PSt.start _ w1 hg).cells;have P:=za (PSt.start _ w1 hg);clear hg)
  | (go_at_call 49;refine(P.out.byte (by simp) 6 (by omega) (by omega)).mono ?_;clear d0 d1 d2 d3 d4 d5 d6 d7;rintro e w2 ⟨rfl,v1,hp⟩;obtain⟨d0,d1,d2,d3,d4,d5,d6,d7⟩:=hp.cells;clear P;have P:=za hp;clear hp)
  | (go_at_call 50;refine(P.out.short (by have:=HF.out;simp[yn,zy] <;> omega) _ (by have:=HF.out;omega) (by have:=HF.out;omega)).mono ?_;clear d0 d1 d2 d3 d4 d5 d6 d7;rintro e w2 ⟨rfl,v1,hp⟩;obtain⟨d0,d1,d2,d3,d4,d5,d6,d7⟩:=hp.cells;clear P;have P:=za hp;clear hp)
  | (go_at_call 51;refine(P.out.long (by have:=HF.out;simp[yn,zy] <;> omega) _ (by have:=HF.out;omega) (by have:=HF.out;omega)).mono ?_;clear d0 d1 d2 d3 d4 d5 d6 d7;rintro e w2 ⟨rfl,v1,hp⟩;obtain⟨d0,d1,d2,d3,d4,d5,d6,d7⟩:=hp.cells;clear P;have P:=za hp;clear hp)
  | (go_at_call 52;refine(P.out.text _ (by have:=HF.out;simp[yn,zy] <;> omega)).mono ?_;clear d0 d1 d2 d3 d4 d5 d6 d7;rintro e w2 ⟨rfl,v1,hp⟩;obtain⟨d0,d1,d2,d3,d4,d5,d6,d7⟩:=hp.cells;clear P;have P:=za hp;clear hp)
  | (go_at_call 53;refine(P.out.out (by have:=HF.out;simp[yn,zy] <;> omega)).mono ?_;clear d0 d1 d2 d3 d4 d5 d6 d7;rintro e w2 ⟨v',rfl,hp,hq⟩;clear P;have P:=za hp;have Q:=za hq;clear hp hq))
 go_ret2
 refine zan (n:=0) P.out Q.out ?_;simp[xm,Yo,Qw,Yr]
set_option maxRecDepth 100000 in
theorem put_7 (node zvw zvx zvy zvz code:Int) (key:ByteArray) (W:World) (hm:ua ⟨7,node,zvw,zvx,zvy,zvz,key,code⟩=true) :
  Calls Tryz.prog 13 #[zp ⟨7,node,zvw,zvx,zvy,zvz,key,code⟩] W fun e w'=>Xi W ⟨7,node,zvw,zvx,zvy,zvz,key,code⟩ e w':=by
 have HF:Hid (0≤node∧node<255∧0≤zvw∧zvw≤65535∧0≤zvx∧zvx≤4611686018427387904∧0≤zvy∧zvy≤4611686018427387904∧0≤zvz∧zvz≤4611686018427387904∧0≤code∧code≤65535∧key.size≤64):=(show _∧_ from ux hm)
 have HM:Hid (∀W',Calls Tryz.prog 48 #[(.agg #[.int .u8 7,.int .i64 node,.int .i64 zvw,.int .i64 zvx,.int .i64 zvy,.int .i64 zvz,.string key,.int .i64 code]:Value)] W' fun e w'=>e = .returned (.bool true)∧W'.grownBy w' none):=(fun W'=>by
  have h:=Ys 7 node zvw zvx zvy zvz code key W' (by have:=HF.out;omega)
  rw[hm] at h
  exact h)
 clear hm;simp only[zp]
 go_enter Tryz.func13,Tryz.ntmps13
 go_wp2_with (first
  | (go_at_call 48;refine(HM.out _).mono ?_;rintro e w1 ⟨rfl,hg⟩;obtain⟨d0,d1,d2,d3,d4,d5,d6,d7⟩:=(PSt.start _ w1 hg).cells;have P:=za (PSt.start _ w1 hg);clear hg)
  | (go_at_call 49;refine(P.out.byte (by simp) 7 (by omega) (by omega)).mono ?_;clear d0 d1 d2 d3 d4 d5 d6 d7;rintro e w2 ⟨rfl,v1,hp⟩;obtain⟨d0,d1,d2,d3,d4,d5,d6,d7⟩:=hp.cells;clear P;have P:=za hp;clear hp)
  | (go_at_call 50;refine(P.out.short (by have:=HF.out;simp[yn,zy] <;> omega) _ (by have:=HF.out;omega) (by have:=HF.out;omega)).mono ?_;clear d0 d1 d2 d3 d4 d5 d6 d7;rintro e w2 ⟨rfl,v1,hp⟩;obtain⟨d0,d1,d2,d3,d4,d5,d6,d7⟩:=hp.cells;clear P;have P:=za hp;clear hp)
  | (go_at_call 51;refine(P.out.long (by have:=HF.out;simp[yn,zy] <;> omega) _ (by have:=HF.out;omega) (by have:=HF.out;omega)).mono ?_;clear d0 d1 d2 d3 d4 d5 d6 d7;rintro e w2 ⟨rfl,v1,hp⟩;obtain⟨d0,d1,d2,d3,d4,d5,d6,d7⟩:=hp.cells;clear P;have P:=za hp;clear hp)
  | (go_at_call 52;refine(P.out.text _ (by have:=HF.out;simp[yn,zy] <;> omega)).mono ?_;clear d0 d1 d2 d3 d4 d5 d6 d7;rintro e w2 ⟨rfl,v1,hp⟩;obtain⟨d0,d1,d2,d3,d4,d5,d6,d7⟩:=hp.cells;clear P;have P:=za hp;clear hp)
  | (go_at_call 53;refine(P.out.out (by have:=HF.out;simp[yn,zy] <;> omega)).mono ?_;clear d0 d1 d2 d3 d4 d5 d6 d7;rintro e w2 ⟨v',rfl,hp,hq⟩;clear P;have P:=za hp;have Q:=za hq;clear hp hq))
 go_ret2
 refine zan (n:=0) P.out Q.out ?_;simp[xm,Yo,Qw,Yr]
set_option maxRecDepth 100000 in
theorem zqh (c:Cmd) (hk:(c.key.size:Int)≤9223372036854775807) (W:World) (hm:ua c=false) :
  Calls Tryz.prog 13 #[zp c] W fun e w'=>e = .returned (.tuple #[.slice none 0 0,.int .i64 2])∧W.grownBy w' none:=by
 obtain⟨kind,node,zvw,zvx,zvy,zvz,key,code⟩:=c;have HM:Hid (∀W',Calls Tryz.prog 48 #[(.agg #[.int .u8 kind,.int .i64 node,.int .i64 zvw,.int .i64 zvx,.int .i64 zvy,.int .i64 zvz,.string key,.int .i64 code]:Value)] W' fun e w'=>e = .returned (.bool false)∧W'.grownBy w' none):=(fun W'=>by
  have h:=Ys kind node zvw zvx zvy zvz code key W' hk;rw[hm] at h
  exact h)
 clear hm;simp only[zp]
 go_enter Tryz.func13,Tryz.ntmps13
 go_wp2_with (go_at_call 48;refine(HM.out _).mono ?_;rintro e w1 ⟨rfl,hg⟩;have P:=za hg;clear hg)
 go_ret2
 exact⟨rfl,ze (zc W _ none) P.out⟩
theorem zkw (c:Cmd) (W:World) (hm:ua c=true):Calls Tryz.prog 13 #[zp c] W fun e w'=>Xi W c e w':=by
 obtain⟨⟨k1,k7⟩,-⟩:=zdi hm;obtain⟨kind,node,zvw,zvx,zvy,zvz,key,code⟩:=c;simp only at k1 k7;have h:kind=1∨kind=2∨kind=3∨kind=4∨kind=5∨kind=6∨kind=7:=by omega
 rcases h with rfl|rfl|rfl|rfl|rfl|rfl|rfl
 ·exact put_1 _ _ _ _ _ _ _ _ hm
 ·exact put_2 _ _ _ _ _ _ _ _ hm
 ·exact put_3 _ _ _ _ _ _ _ _ hm
 ·exact put_4 _ _ _ _ _ _ _ _ hm
 ·exact put_5 _ _ _ _ _ _ _ _ hm
 ·exact put_6 _ _ _ _ _ _ _ _ hm
 ·exact put_7 _ _ _ _ _ _ _ _ hm
structure uy (B:Nat) (W:World) (v:Value) (l:List Int):Prop where
 ex:∃p cap,v = .slice p l.length cap∧l.length≤cap∧cap≤9223372036854775807∧(l = []∨∃a,p=some a∧a.block<B∧∀j u,(zu l)[j]? = some u→W.cell? (a.add j)=some u)
theorem uy.turn {B:Nat} {W W':World} {v:Value} {l:List Int} (h:uy B W v l) (hs:∀k,k<B→W'.heap[k]? = W.heap[k]?):uy B W' v l:=by
 obtain⟨p,cap,rfl,h1,h2,h3⟩:=h.ex;refine⟨p,cap,rfl,h1,h2,?_⟩
 rcases h3 with h3|⟨a,rfl,hb,h4⟩
 ·exact Or.inl h3
 ·refine Or.inr ⟨a,rfl,hb,fun j u hu=>?_⟩
  have hbl:(a.add j).block=a.block:=by unfold Addr.add;split <;> rfl
  exact(World.cell?_of_block (hs _ (by rw[hbl];exact hb))).trans (h4 j u hu)
theorem uy.upto {B:Nat} {W:World} {p:Option Addr} {cap:Nat} {l:List Int} (h:uy B W (.slice p l.length cap) l) {n:Nat} (hn:n≤l.length):uy B W (sliced p 0 n n 1) (l.take n):=by
 obtain⟨p',cap',e,h1,h2,h3⟩:=h.ex
 injection e with e1 _ e2
 subst e1 e2;have hl:(l.take n).length=n:=by rw[List.length_take];omega
 have hb:n≤9223372036854775807:=by omega
 rcases h3 with h3|⟨a,rfl,hb2,h4⟩
 ·have h0:n=0:=by subst h3;simpa using hn
  subst h0 h3
  cases p with
  | none=>exact⟨none,0,by simp[sliced],by simp,by omega,Or.inl (by simp)⟩
  | some a=>exact⟨some a,0,by simp[sliced],by simp,by omega,Or.inl (by simp)⟩
 ·refine⟨some a,n,?_,by omega,hb,Or.inr ⟨a,rfl,hb2,fun j u hu=>?_⟩⟩
  ·simp[sliced,hl,Addr.add]
  ·refine h4 j u ?_
   rw[zu,List.map_take] at hu;have hj:j<n:=by
    rcases Nat.lt_or_ge j n with h|h
    ·exact h
    ·rw[List.getElem?_eq_none (by rw[List.length_take];omega)] at hu;cases hu
   rw[List.getElem?_take_of_lt hj] at hu
   exact hu
theorem uy.behind {B:Nat} {W:World} {p:Option Addr} {cap:Nat} {l:List Int} (h:uy B W (.slice p l.length cap) l) {n:Nat} (hn:n≤l.length):uy B W (sliced p n l.length cap 1) (l.drop n):=by
 obtain⟨p',cap',e,h1,h2,h3⟩:=h.ex
 injection e with e1 _ e2
 subst e1 e2;have hl:(l.drop n).length=l.length-n:=by rw[List.length_drop]
 have hb:cap-n≤9223372036854775807:=by omega
 by_cases hd:l.drop n = []
 ·cases p with
  | none=>exact⟨none,cap-n,by simp[sliced,hl],by rw[hl];omega,hb,Or.inl hd⟩
  | some a=>exact⟨if cap=n then some a else some (a.add n),cap-n,by simp[sliced,hl],by rw[hl];omega,hb,Or.inl hd⟩
 ·rcases h3 with h3|⟨a,rfl,hb2,h4⟩
  ·exact absurd (by rw[h3];simp) hd
  ·have hlt:n<l.length:=by
    rcases Nat.lt_or_ge n l.length with h|h
    ·exact h
    ·exact absurd (List.drop_eq_nil_of_le h) hd
   have hc:cap≠n:=by omega
   refine⟨some (a.add n),cap-n,?_,by rw[hl];omega,hb,Or.inr ⟨a.add n,rfl,?_,fun j u hu=>?_⟩⟩
   ·simp[sliced,hl,hc]
   ·have hbl:(a.add n).block=a.block:=by unfold Addr.add;split <;> rfl
    rw[hbl];exact hb2
   ·rw[Addr.add_add]
    refine h4 (n+j) u ?_;rw[zu,List.map_drop,List.getElem?_drop] at hu
    exact hu
structure Rd (B:Nat) (w:World) (rb:Nat) (l:List Int):Prop where
 le:B≤rb
 ex:∃v,w.heap[rb]? = some (.cells #[v] 107 (0,0))∧uy B w v l
def xh:Ending:=.panicked [{ v:=.iface 186 (.agg #[]),recovered:=false }]
def zlh {α:Type} (B:Nat) (w:World) (rb:Nat) (o:Option (α × List Int)) (R:Value→World→α→Prop) (e:Ending) (w':World):Prop:=
 yc (fun k=>k=rb) w w'∧match o with
  | some (x,t)=>(∃v,e = .returned v∧R v w' x)∧Rd B w' rb t
  | none=>e=xh
set_option maxRecDepth 100000 in
theorem xu (W:World):Calls Tryz.prog 59 #[.bool true] W fun e w'=>e = .returned (.tuple #[])∧w'=W:=by
 go_enter Tryz.func59,Tryz.ntmps59
 go_wp2
 first|go_end0|refine bodyPost_ret (results_none rfl _ _ _) rfl ?_
 exact⟨rfl,rfl⟩
set_option maxRecDepth 100000 in
theorem yt (W:World):Calls Tryz.prog 59 #[.bool false] W fun e w'=>e=xh∧w'=W:=by
 go_enter Tryz.func59,Tryz.ntmps59
 go_wp2
 exact⟨rfl,rfl,rfl⟩
theorem yc.refl (bs:Nat→Prop) (w:World):yc bs w w:=⟨rfl,rfl,rfl,Nat.le_refl _,fun _ _ _=>rfl⟩
theorem yc.trans {bs:Nat→Prop} {a b c:World} (h:yc bs a b) (g:yc bs b c):yc bs a c:=
 ⟨g.os.trans h.os,g.tape.trans h.tape,g.output.trans h.output,Nat.le_trans h.size g.size,fun k hk hn=>(g.block k (Nat.lt_of_lt_of_le hk h.size) hn).trans (h.block k hk hn)⟩
theorem vf (w:World) (b i:Nat) (v:Value):yc (fun k=>k=b) w (w.setCell ⟨b,i,none⟩ v):=by
 have hs:=Zm w b i v
 exact⟨hs.os,hs.tape,hs.output,hs.size,fun k hk hn=>hs.block k hk (fun e=>hn (by cases e;rfl))⟩
theorem Rd.set {B:Nat} {w:World} {rb:Nat} {l t:List Int} (h:Rd B w rb l) {v:Value} (hv:uy B w v t):Rd B (w.setCell ⟨rb,0,none⟩ v) rb t:=by
 obtain⟨v0,hb,-⟩:=h.ex;refine⟨h.le,v,by simp[World.setCell,Array.getElem?_modify,hb],hv.turn fun k hk=>?_⟩
 exact Below.heap_setCell _ _ _ k (by have:=h.le;show k≠rb;omega)
theorem zqi {B:Nat} {w:World} {rb n L cap:Nat} {l:List Int} {p:Option Addr} {v v':Value} (h:Rd B w rb l) (hu:uy B w (sliced p 0 n n 1) (l.take n)) (hd:uy B w (sliced p n L cap 1) (l.drop n)) (e2:sliced p 0 n n 1=v) (e1:sliced p n L cap 1=v') :
  zlh B w rb (some (l.take n,l.drop n)) (fun v w' x=>uy B w' v x) (.returned v) (w.setCell ⟨rb,0,none⟩ v'):=by
 subst e1 e2
 exact⟨vf _ _ _ _,⟨_,rfl,hu.turn fun k hk=>Below.heap_setCell _ _ _ k (by have:=h.le;show k≠rb;omega)⟩,h.set hd⟩
set_option maxRecDepth 100000 in
theorem zm6 {B:Nat} {w:World} {rb:Nat} {l:List Int} (h:Rd B w rb l) (hB:B≤w.heap.size) (n:Nat) (hn:n≤1000000) :
  Calls Tryz.prog 112 #[.pointer (some ⟨rb,0,none⟩),.int .i64 n] w fun e w'=>zlh B w rb (if n≤l.length then some (l.take n,l.drop n) else none) (fun v w' x=>uy B w' v x) e w':=by
 obtain⟨v,hb,hv⟩:=h.ex;have hv0:=hv;obtain⟨p,cap,rfl,hlc,hcm,-⟩:=hv.ex;have c0:w.cell? ⟨rb,0,none⟩=some (.slice p l.length cap):=by simp[World.cell?,hb]
 have z0:w.frozen? ⟨rb,0,none⟩=false:=by simp[World.frozen?,hb]
 by_cases hle:n≤l.length
 ·rw[if_pos hle]
  have HU:=za (hv0.upto hle);have HD:=za (hv0.behind hle);have H:=za h;have hd:decide ((n:Int)≤(l.length:Int))=true:=by simpa using hle
  have hcl:(n:Int)≤(cap:Int):=by omega
  have hll:(n:Int)≤(l.length:Int):=by omega
  have HL:=za hle;clear h hv hv0 hb hle;generalize hlen:l.length=L at *;clear hlen
  go_enter Tryz.func112,Tryz.ntmps112
  go_wp2_with (go_at_call 59;first|(refine(xu _).mono ?_;rintro e w1 ⟨rfl,rfl⟩)|(rw[hd];refine(xu _).mono ?_;rintro e w1 ⟨rfl,rfl⟩))
  ·go_ret
   have e1:sliced p n L cap 1 = .slice p (L-n) (cap-n):=by simp[sliced,h]
   have e2:sliced p 0 n n 1 = .slice p n n:=by cases p <;> simp[sliced,Addr.add]
   exact zqi H.out HU.out HD.out e2 (by subst h;simpa using e1)
  ·go_ret
   have e1:sliced p n L cap 1 = .slice (Option.map (fun x=>x.add n) p) (L-n) (cap-n):=by simp[sliced,h]
   have e2:sliced p 0 n n 1 = .slice p n n:=by cases p <;> simp[sliced,Addr.add]
   exact zqi H.out HU.out HD.out e2 e1
 ·rw[if_neg hle]
  have hd:decide (n≤l.length)=false:=by simp;omega
  have hll:(l.length:Int)<(n:Int):=by omega
  clear h hv hv0 hb hle;generalize hlen:l.length=L at *;clear hlen
  go_enter Tryz.func112,Tryz.ntmps112
  go_wp2_with (go_at_call 59;first|(refine(yt _).mono ?_;rintro e w1 ⟨rfl,rfl⟩;simp only[xh])|(rw[hd];refine(yt _).mono ?_;rintro e w1 ⟨rfl,rfl⟩;simp only[xh]))
  exact⟨rfl,yc.refl _ _,rfl⟩
theorem zib {l:List Int} {k:Nat} (hk:k<l.length):num (l.take (k+1))=num (l.take k)*256+(l.getD k 0).toNat:=by
 rw[List.take_succ_eq_append_getElem hk,zhb]
 congr 1
 simp[List.getD,List.getElem?_eq_getElem hk]
theorem zud {l:List Int} (h:BL l):num l<256 ^ l.length:=(zn8 _ l rfl h).2
theorem wraps64 (n:Int) (h0:0≤n) (h1:n<2 ^ 64):IntKind.u64.wrap n=n:=by simp[IntKind.wrap,IntKind.bits,IntKind.signed];omega
theorem or_byte (x c:Nat) (hx:x<256 ^ 7) (hc:c<256):bits BinOp.or IntKind.u64 ((x:Int)*256) c=((x*256+c:Nat):Int):=by
 rw[bits_join .u64 64 (by decide) wraps64 8 _ _ (by omega) (by omega) (by omega) (by omega) (by omega) (by omega)]
 omega
theorem zu4 (x:Nat) (hx:x<256 ^ 8):wrap64 (x:Int)=s64 x:=by
 unfold wrap64 s64
 split <;> omega
set_option maxRecDepth 100000 in
theorem zbf {B:Nat} {w:World} {rb:Nat} {l:List Int} (h:Rd B w rb l) (hB:B≤w.heap.size) (hl:BL l) (n:Nat) (hn:n≤8) :
  Calls Tryz.prog 57 #[.pointer (some ⟨rb,0,none⟩),.int .i64 n] w fun e w'=>zlh B w rb (rd n l) (fun v w' x=>v = .int .i64 (s64 x)) e w':=by
 have HR:=za (zm6 h hB n (by omega))
 clear h
 by_cases hle:n≤l.length
 ·rw[if_pos hle] at HR
  rw[rd,if_pos hle];have HL:Hid (BL (l.take n)∧(l.take n).length=n):=(show _∧_ from ⟨hl.take n,by rw[List.length_take];omega⟩)
  generalize l.take n=xs at *;generalize l.drop n=t at *;clear hle hl
  go_enter Tryz.func57,Tryz.ntmps57
  go_wp2_with (go_at_call 112;refine HR.out.mono ?_;rintro e w1 ⟨ht,⟨v,rfl,hv⟩,hd⟩;obtain⟨p,cap,rfl,-,-,hc⟩:=hv.ex;rw[HL.out.2];have HT:=za ht;have HD:=za hd;have HC:=za hc;clear ht hd hc hv)
  go_loopw [5,12] (fun xv i wr=>w1=wr∧∃k:Nat,k≤n∧xv = .int .u64 (num (xs.take k))∧i = .int .i64 k) (fun _ i _=>n-(intOf i).toNat)
  case atStart=>exact⟨rfl,0,by omega,rfl,rfl⟩
  case round=>
   obtain⟨rfl,k,hk,rfl,rfl⟩:=hrel
   by_cases hkn:k<n
   ·have hkl:k<xs.length:=by rw[HL.out.2];exact hkn
    obtain⟨c,hc0,hc1⟩:∃c:Nat,c<256∧xs.getD k 0=c:=by
     have:=HL.out.1 xs[k] (List.getElem_mem _)
     exact⟨xs[k].toNat,by omega,by simp[List.getD,List.getElem?_eq_getElem hkl];omega⟩
    have hnum:num (xs.take (k+1))=num (xs.take k)*256+c:=by rw[zib hkl,hc1];simp
    have hlt:num (xs.take k)<256 ^ 7:=by
     have h1:=zud (HL.out.1.take k);rw[List.length_take] at h1
     exact Nat.lt_of_lt_of_le h1 (Nat.pow_le_pow_right (by decide) (by have:=HL.out.2;omega))
    obtain⟨a,rfl,cell⟩:∃a,p=some a∧w1.cell? (a.add k)=some (.int .u8 c):=by
     rcases HC.out with h0|⟨a,rfl,-,h1⟩
     ·rw[h0] at hkl;simp at hkl
     ·refine⟨a,rfl,h1 k _ ?_⟩
      rw[zu,List.getElem?_map,List.getElem?_eq_getElem hkl];simp[←hc1,List.getD,List.getElem?_eq_getElem hkl]
    go_wp2;refine⟨⟨trivial,k+1,by omega,?_,by congr 1⟩,by simp[intOf];omega⟩
    rw[or_byte _ _ hlt hc0,hnum]
   ·have hkn':k=n:=by omega
    subst hkn';have hw:wrap64 ((num (xs.take k):Nat):Int)=s64 (num xs):=by
     have e:xs.take k=xs:=List.take_of_length_le (by rw[HL.out.2];exact Nat.le_refl _)
     rw[e];refine zu4 _ ?_;have h1:=zud HL.out.1;rw[HL.out.2] at h1
     exact Nat.lt_of_lt_of_le h1 (Nat.pow_le_pow_right (by decide) hn)
    go_wp2
    go_ret
    exact⟨HT.out,⟨_,rfl,congrArg (Value.int .i64) hw⟩,HD.out⟩
 ·rw[if_neg hle] at HR
  rw[rd,if_neg hle]
  go_enter Tryz.func57,Tryz.ntmps57
  go_wp2_with (go_at_call 112;refine HR.out.mono ?_;rintro e w1 ⟨ht,rfl⟩;simp only[xh];have HT:=za ht;clear ht)
  exact⟨rfl,HT.out,rfl⟩
theorem ys {B:Nat} {w:World} {v:Value} {l:List Int} (h:uy B w v l):(convert 25 9 v).run Tryz.prog w = .ok (.string (ofB l)) w:=by
 obtain⟨p,cap,rfl,-,-,hc⟩:=h.ex;rw[run_convert_bytes_string w _ _ 5 p _ cap Tryz.underlying25 Tryz.underlying5 Tryz.underlying9]
 cases p with
 | none=>
  have h0:l = []:=by
   rcases hc with h0|⟨a,h1,_⟩
   ·exact h0
   ·cases h1
  subst h0;simp[Conv.bytesToString,ofB]
  rfl
 | some a=>
  have hl:(loadCells a l.length).run Tryz.prog w = .ok (l.map (Value.int .u8)).toArray w:=by
   have:=run_loadCells_list (P:=Tryz.prog) w a (l.map (Value.int .u8)) (fun j v hj=>by
    rcases hc with h0|⟨a',h1,_,h2⟩
    ·subst h0;simp at hj
    ·cases h1;exact h2 j v hj)
   simpa using this
  rw[run_bytesToString w a l.length cap l hl,foldl_push_bytes];simp[ofB,ByteArray.empty,ByteArray.emptyWithCapacity]
  rfl
set_option maxRecDepth 100000 in
theorem zju {B:Nat} {w:World} {rb:Nat} {l:List Int} (h:Rd B w rb l) (hB:B≤w.heap.size) (hl:BL l) :
  Calls Tryz.prog 58 #[.pointer (some ⟨rb,0,none⟩)] w fun e w'=>zlh B w rb (rdT l) (fun v w' x=>v = .string x) e w':=by
 have HN:=za (zbf h hB hl 1 (by omega))
 clear h;rw[rdT]
 cases hr:rd 1 l with
 | none=>
  rw[hr] at HN;simp only[Option.bind_none]
  go_enter Tryz.func58,Tryz.ntmps58
  go_wp2_with (go_at_call 57;refine HN.out.mono ?_;rintro e w1 ⟨ht,rfl⟩;simp only[xh];have HT:=za ht;clear ht)
  exact⟨rfl,HT.out,rfl⟩
 | some p=>
  obtain⟨n,t⟩:=p;rw[hr] at HN;obtain⟨e1,hn,ht⟩:=xz hl hr;have hs:s64 n=(n:Int):=by rw[s64,if_pos (by omega)]
  simp only[Option.bind_some];have HR:Hid (∀w1,yc (fun k=>k=rb) w w1→Rd B w1 rb t→Calls Tryz.prog 112 #[.pointer (some ⟨rb,0,none⟩),.int .i64 n] w1 fun e w'=>zlh B w1 rb (if n≤t.length then some (t.take n,t.drop n) else none) (fun v w' x=>uy B w' v x) e w'):=
   (fun w1 ht hd=>zm6 hd (Nat.le_trans hB ht.size) n (by omega))
  by_cases hle:n≤t.length
  ·rw[if_pos hle] at HR
   rw[if_pos hle];have HL:=za (ht.take n);generalize t.take n=xs at *;generalize t.drop n=t2 at *;clear hle hl hr e1
   go_enter Tryz.func58,Tryz.ntmps58
   go_wp2_with (first
    | (go_at_call 57;refine HN.out.mono ?_;rintro e w1 ⟨ht,⟨v,rfl,rfl⟩,hd⟩;rw[hs];have HT:=za ht;have HD:=za hd;clear ht hd)
    | (go_at_call 112;refine(HR.out _ HT.out HD.out).mono ?_;rintro e w2 ⟨ht2,⟨v,rfl,hv⟩,hd2⟩;have HCV:=za (ys hv);have HT2:=za ht2;have HD2:=za hd2;clear ht2 hd2 hv))
   rw[HCV.out];simp only[Result.andThen];rw[Oper.upon_value];go_wp2
   go_ret
   exact⟨HT.out.trans HT2.out,⟨_,rfl,rfl⟩,HD2.out⟩
  ·rw[if_neg hle] at HR
   rw[if_neg hle]
   go_enter Tryz.func58,Tryz.ntmps58
   go_wp2_with (first
    | (go_at_call 57;refine HN.out.mono ?_;rintro e w1 ⟨ht,⟨v,rfl,rfl⟩,hd⟩;rw[hs];have HT:=za ht;have HD:=za hd;clear ht hd)
    | (go_at_call 112;refine(HR.out _ HT.out HD.out).mono ?_;rintro e w2 ⟨ht2,rfl⟩;simp only[xh];have HT2:=za ht2;clear ht2))
   exact⟨rfl,HT.out.trans HT2.out,rfl⟩
end Go.Proofs.YtjfelfjobeeenaaGreat
