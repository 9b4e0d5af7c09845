/- Worlds that are another one with draws and new blocks: 'ext w x' as an equation; a region that draws its order and whose operations and callees only read, or lay blocks, walked once. Conditions: none. The commands: what 'bare' and 'may' answer. Conditions: the fields' ranges. YtjfelfjobeeenaaGreatDMay The table in memory: which blocks it has, and what they hold. Conditions: none. -/
import Derived.Test.YtjfelfjobeeenaaGreatF1
import Derived.Deep.QuietTactic
import Derived.BigQuiet
import Derived.Test.YtjfelfjobeeenaaGreatChecked
import Derived.WalkLawsBesides
import Derived.WalkSpells
import Derived.Deep.RegionWith
import Derived.Outline
import Derived.Deep.DeepCutAuto
set_option linter.unusedSimpArgs false
set_option linter.unusedVariables false
namespace Go.Sf
open Go.MapKept Go.RowKit
structure Ext where
 d:Nat
 os:Array Obj
 deriving Inhabited
def ext (w:World) (x:Ext):World:={ w with heap:=w.heap++x.os,drawn:=x.d }
theorem ext_of_grown {w w':World} (h:w.grownBy w' none):∃x,w'=ext w x:=by
 refine⟨⟨w'.drawn,w'.heap.extract w.heap.size w'.heap.size⟩,?_⟩
 have e:w'.heap=w.heap++w'.heap.extract w.heap.size w'.heap.size:=by
  apply Array.ext_getElem?
  intro k
  rw[Array.getElem?_append]
  split
  ·rename_i hk;exact h.block k hk (by simp)
  ·rename_i hk
   rw[Array.getElem?_extract]
   split
   ·congr 1;omega
   ·rw[Array.getElem?_eq_none];have:=h.size;omega
 obtain⟨h1,h2,h3,_,_⟩:=h
 cases w;cases w'
 simp only[ext] at *
 subst h1;subst h2;subst h3
 rw[←e]
section
variable (w : World) (x y : Ext) (a : Addr)
@[go_sem] theorem size_ext:(ext w x).heap.size=w.heap.size+x.os.size:=by simp[ext]
theorem heap_ext {k:Nat} (h:k<w.heap.size):(ext w x).heap[k]? = w.heap[k]?:=by simp[ext,Array.getElem?_append,h]
@[go_sem] theorem cell_ext (h:a.block<w.heap.size):(ext w x).cell? a=w.cell? a:=by simp only[World.cell?,heap_ext w x h]
@[go_sem] theorem frozen_ext (h:a.block<w.heap.size):(ext w x).frozen? a=w.frozen? a:=by simp only[World.frozen?,heap_ext w x h]
@[go_sem] theorem drew_ext:(ext w x).drew=ext w ⟨x.d+1,x.os⟩:=rfl
@[go_sem] theorem ext_drew:ext w.drew x=ext w x:=rfl
@[go_sem] theorem ext_ext:ext (ext w x) y=ext w ⟨y.d,x.os++y.os⟩:=by simp[ext,Array.append_assoc]
theorem grown_ext:w.grownBy (ext w x) none:=⟨rfl,rfl,rfl,by simp[ext],fun k hk _=>heap_ext w x hk⟩
@[go_sem] theorem mapT_ext {K V:Type} {ek:K→Value} {ev:V→Value} {b:Nat} {m:List (K × V)} (h:MapT w b ek ev m):MapT (ext w x) b ek ev m:=h.kept (grown_ext w x) (by simp)
@[go_sem] theorem mapT_ext1 {K V:Type} {ek:K→Value} {ev:V→Value} {b:Nat} {m:List (K × V)} (o:Obj) (h:MapT w b ek ev m):MapT (ext (w.alloc o) x) b ek ev m:=(h.alloc o).kept (grown_ext _ x) (by simp)
@[go_sem] theorem mapT_ext2 {K V:Type} {ek:K→Value} {ev:V→Value} {b:Nat} {m:List (K × V)} (o o':Obj) (h:MapT w b ek ev m):MapT (ext ((w.alloc o).alloc o') x) b ek ev m:=((h.alloc o).alloc o').kept (grown_ext _ x) (by simp)
@[go_sem] theorem mapT_ext1b {K V:Type} {ek:K→Value} {ev:V→Value} {b:Nat} {m:List (K × V)} (o:Obj) (h:MapT w b ek ev m):MapT ((ext w x).alloc o) b ek ev m:=(h.kept (grown_ext _ x) (by simp)).alloc o
end
theorem grown_trans {a b c:World} (h:a.grownBy b none) (k:b.grownBy c none):a.grownBy c none:=
 ⟨k.os.trans h.os,k.tape.trans h.tape,k.output.trans h.output,Nat.le_trans h.size k.size,fun i hi hn=>(k.block i (Nat.lt_of_lt_of_le hi h.size) hn).trans (h.block i hi hn)⟩
theorem grown_refl (w:World):w.grownBy w none:=⟨rfl,rfl,rfl,Nat.le_refl _,fun _ _ _=>rfl⟩
theorem grown_alloc {a w:World} (h:a.grownBy w none) (o:Obj):a.grownBy (w.alloc o) none:=grown_trans h (World.grownBy_alloc w o none)
theorem grown_drew {a w:World} (h:a.grownBy w none):a.grownBy w.drew none:=grown_trans h ⟨rfl,rfl,rfl,Nat.le_refl _,fun _ _ _=>rfl⟩
theorem grown_ext' {a w:World} (h:a.grownBy w none) (x:Ext):a.grownBy (ext w x) none:=grown_trans h (grown_ext w x)
theorem grown_setCell {a w:World} (h:a.grownBy w none) {p:Addr} (hp:a.heap.size≤p.block) (u:Value):a.grownBy (w.setCell p u) none:=
 ⟨h.os,h.tape,h.output,Nat.le_trans h.size (by simp[World.setCell]),fun k hk hn=>(Below.heap_setCell w p u k (by omega)).trans (h.block k hk hn)⟩
theorem wp_region_quiet_ext {P:Program} {id:Nat} {Q:Exit→Act→World→Prop} {a:Act} {w:World} {l:List Oper} (hm:P.follows .mixedOrders=true) (hB:Region.lexB .any l.toArray=true)
  (h:wpQuiet P l.toArray (fun w'=>∃x:Ext,w'=ext w x) (fun a'=>∀w',(∃x:Ext,w'=ext w x)→Q .normal a' w') l a):(Code.region id l.toArray true).wp P Q a w:=
 wp_region_quiet (C:=fun w'=>∃x:Ext,w'=ext w x) hm hB ⟨⟨w.drawn+1,#[]⟩,by simp only[ext,Array.append_empty]⟩ (by simpa using h)
theorem calls_ext {P:Program} {f:FuncId} {args:Array Value} {w:World} {x:Ext} {v:Value}
  (h:Calls P f args (ext w x) fun e w'=>e = .returned v∧(ext w x).grownBy w' none):Calls P f args (ext w x) fun e w''=>e = .returned v∧∃y:Ext,w''=ext w y:=
 h.mono fun _ _ ⟨he,hg⟩=>⟨he,ext_of_grown (grown_trans (grown_ext w x) hg)⟩
end Go.Sf
namespace Go.Proofs.YtjfelfjobeeenaaGreat
open Go.RowKit Go.Sf
structure Cmd where
 kind:Int
 node:Int
 client:Int
 inc:Int
 req:Int
 ver:Int
 key:ByteArray
 code:Int
 deriving DecidableEq
def encCmd (c:Cmd):Value:=.agg #[.int .u8 c.kind,.int .i64 c.node,.int .i64 c.client,.int .i64 c.inc,.int .i64 c.req,.int .i64 c.ver,.string c.key,.int .i64 c.code]
def bareC (c:Cmd):Cmd:=
 if c.kind=2 then ⟨2,c.node,0,c.inc,0,0,⟨#[]⟩,0⟩
 else if c.kind=4∨c.kind=5 then ⟨c.kind,c.node,0,c.inc,0,c.ver,c.key,0⟩
 else if c.kind=3∨c.kind=6 then ⟨c.kind,0,c.client,0,c.req,0,c.key,0⟩
 else if c.kind=7 then ⟨7,0,c.client,0,c.req,0,⟨#[]⟩,c.code⟩
 else ⟨c.kind,0,0,0,0,0,⟨#[]⟩,0⟩
set_option maxHeartbeats 1000000 in
theorem bare_2 (node client inc req ver code:Int) (key:ByteArray) (w:World) :
  Calls Tryz.prog 106 #[encCmd ⟨2,node,client,inc,req,ver,key,code⟩] w fun e w'=>e = .returned (encCmd (bareC ⟨2,node,client,inc,req,ver,key,code⟩))∧w.grownBy w' none:=by
 simp only[encCmd,bareC]
 go_enter Tryz.func106,Tryz.ntmps106
 go_wp2
 go_region
 go_wp2
 exact bodyPost_ret (v:=.agg #[.int .u8 2,.int .i64 node,.int .i64 0,.int .i64 inc,.int .i64 0,.int .i64 0,.string ⟨#[]⟩,.int .i64 0]) (by simp[results,Tryz.results106,go_sem]) rfl ⟨rfl,by repeat (first|exact grown_refl _|exact World.grownBy_alloc _ _ _|refine grown_alloc ?_ _|refine grown_drew ?_)⟩
set_option maxHeartbeats 1000000 in
theorem bare_4 (node client inc req ver code:Int) (key:ByteArray) (w:World) :
  Calls Tryz.prog 106 #[encCmd ⟨4,node,client,inc,req,ver,key,code⟩] w fun e w'=>e = .returned (encCmd (bareC ⟨4,node,client,inc,req,ver,key,code⟩))∧w.grownBy w' none:=by
 simp only[encCmd,bareC]
 go_enter Tryz.func106,Tryz.ntmps106
 go_wp2
 go_region
 go_wp2
 exact bodyPost_ret (v:=.agg #[.int .u8 4,.int .i64 node,.int .i64 0,.int .i64 inc,.int .i64 0,.int .i64 ver,.string key,.int .i64 0]) (by simp[results,Tryz.results106,go_sem]) rfl ⟨rfl,by repeat (first|exact grown_refl _|exact World.grownBy_alloc _ _ _|refine grown_alloc ?_ _|refine grown_drew ?_)⟩
set_option maxHeartbeats 1000000 in
theorem bare_5 (node client inc req ver code:Int) (key:ByteArray) (w:World) :
  Calls Tryz.prog 106 #[encCmd ⟨5,node,client,inc,req,ver,key,code⟩] w fun e w'=>e = .returned (encCmd (bareC ⟨5,node,client,inc,req,ver,key,code⟩))∧w.grownBy w' none:=by
 simp only[encCmd,bareC]
 go_enter Tryz.func106,Tryz.ntmps106
 go_wp2
 go_region
 go_wp2
 exact bodyPost_ret (v:=.agg #[.int .u8 5,.int .i64 node,.int .i64 0,.int .i64 inc,.int .i64 0,.int .i64 ver,.string key,.int .i64 0]) (by simp[results,Tryz.results106,go_sem]) rfl ⟨rfl,by repeat (first|exact grown_refl _|exact World.grownBy_alloc _ _ _|refine grown_alloc ?_ _|refine grown_drew ?_)⟩
set_option maxHeartbeats 1000000 in
theorem bare_3 (node client inc req ver code:Int) (key:ByteArray) (w:World) :
  Calls Tryz.prog 106 #[encCmd ⟨3,node,client,inc,req,ver,key,code⟩] w fun e w'=>e = .returned (encCmd (bareC ⟨3,node,client,inc,req,ver,key,code⟩))∧w.grownBy w' none:=by
 simp only[encCmd,bareC]
 go_enter Tryz.func106,Tryz.ntmps106
 go_wp2
 go_region
 go_wp2
 exact bodyPost_ret (v:=.agg #[.int .u8 3,.int .i64 0,.int .i64 client,.int .i64 0,.int .i64 req,.int .i64 0,.string key,.int .i64 0]) (by simp[results,Tryz.results106,go_sem]) rfl ⟨rfl,by repeat (first|exact grown_refl _|exact World.grownBy_alloc _ _ _|refine grown_alloc ?_ _|refine grown_drew ?_)⟩
set_option maxHeartbeats 1000000 in
theorem bare_6 (node client inc req ver code:Int) (key:ByteArray) (w:World) :
  Calls Tryz.prog 106 #[encCmd ⟨6,node,client,inc,req,ver,key,code⟩] w fun e w'=>e = .returned (encCmd (bareC ⟨6,node,client,inc,req,ver,key,code⟩))∧w.grownBy w' none:=by
 simp only[encCmd,bareC]
 go_enter Tryz.func106,Tryz.ntmps106
 go_wp2
 go_region
 go_wp2
 exact bodyPost_ret (v:=.agg #[.int .u8 6,.int .i64 0,.int .i64 client,.int .i64 0,.int .i64 req,.int .i64 0,.string key,.int .i64 0]) (by simp[results,Tryz.results106,go_sem]) rfl ⟨rfl,by repeat (first|exact grown_refl _|exact World.grownBy_alloc _ _ _|refine grown_alloc ?_ _|refine grown_drew ?_)⟩
set_option maxHeartbeats 1000000 in
theorem bare_7 (node client inc req ver code:Int) (key:ByteArray) (w:World) :
  Calls Tryz.prog 106 #[encCmd ⟨7,node,client,inc,req,ver,key,code⟩] w fun e w'=>e = .returned (encCmd (bareC ⟨7,node,client,inc,req,ver,key,code⟩))∧w.grownBy w' none:=by
 simp only[encCmd,bareC]
 go_enter Tryz.func106,Tryz.ntmps106
 go_wp2
 go_region
 go_wp2
 exact bodyPost_ret (v:=.agg #[.int .u8 7,.int .i64 0,.int .i64 client,.int .i64 0,.int .i64 req,.int .i64 0,.string ⟨#[]⟩,.int .i64 code]) (by simp[results,Tryz.results106,go_sem]) rfl ⟨rfl,by repeat (first|exact grown_refl _|exact World.grownBy_alloc _ _ _|refine grown_alloc ?_ _|refine grown_drew ?_)⟩
set_option maxHeartbeats 1000000 in
theorem bare_1 (node client inc req ver code:Int) (key:ByteArray) (w:World) :
  Calls Tryz.prog 106 #[encCmd ⟨1,node,client,inc,req,ver,key,code⟩] w fun e w'=>e = .returned (encCmd (bareC ⟨1,node,client,inc,req,ver,key,code⟩))∧w.grownBy w' none:=by
 simp only[encCmd,bareC]
 go_enter Tryz.func106,Tryz.ntmps106
 go_wp2
 exact bodyPost_ret (v:=.agg #[.int .u8 1,.int .i64 0,.int .i64 0,.int .i64 0,.int .i64 0,.int .i64 0,.string ⟨#[]⟩,.int .i64 0]) (by simp[results,Tryz.results106,go_sem]) rfl ⟨rfl,by repeat (first|exact grown_refl _|exact World.grownBy_alloc _ _ _|refine grown_alloc ?_ _|refine grown_drew ?_)⟩
theorem bare_any (c:Cmd) (h1:1≤c.kind) (h7:c.kind≤7) (w:World) :
  Calls Tryz.prog 106 #[encCmd c] w fun e w'=>e = .returned (encCmd (bareC c))∧w.grownBy w' none:=by
 obtain⟨kind,node,client,inc,req,ver,key,code⟩:=c
 simp only at h1 h7
 have h:kind=1∨kind=2∨kind=3∨kind=4∨kind=5∨kind=6∨kind=7:=by omega
 rcases h with rfl|rfl|rfl|rfl|rfl|rfl|rfl
 ·exact bare_1 _ _ _ _ _ _ _ _
 ·exact bare_2 _ _ _ _ _ _ _ _
 ·exact bare_3 _ _ _ _ _ _ _ _
 ·exact bare_4 _ _ _ _ _ _ _ _
 ·exact bare_5 _ _ _ _ _ _ _ _
 ·exact bare_6 _ _ _ _ _ _ _ _
 ·exact bare_7 _ _ _ _ _ _ _ _
def longB (c:Cmd):Bool:=decide (0≤c.inc∧c.inc≤4611686018427387904∧0≤c.req∧c.req≤4611686018427387904∧0≤c.ver∧c.ver≤4611686018427387904)
def smallB (c:Cmd):Bool:=decide (0≤c.node∧c.node<255∧0≤c.client∧c.client≤65535∧0≤c.code∧c.code≤65535)
theorem longB_iff {b:Bool} {c:Cmd} (h:b=true↔(0≤c.inc∧c.inc≤4611686018427387904∧0≤c.req∧c.req≤4611686018427387904∧0≤c.ver∧c.ver≤4611686018427387904)):Value.bool b=Value.bool (longB c):=by
 congr 1
 rw[Bool.eq_iff_iff,h,longB,decide_eq_true_iff]
theorem smallB_iff {b:Bool} {c:Cmd} (h:b=true↔(0≤c.node∧c.node<255∧0≤c.client∧c.client≤65535∧0≤c.code∧c.code≤65535)):Value.bool b=Value.bool (smallB c):=by
 congr 1
 rw[Bool.eq_iff_iff,h,smallB,decide_eq_true_iff]
theorem toList_eq_iff (k k':ByteArray):(k.toList == k'.toList)=decide (k=k'):=by
 rw[Bool.eq_iff_iff,decide_eq_true_iff,beq_iff_eq,ByteArray.toList_eq,ByteArray.toList_eq]
 refine⟨fun h=>?_,fun h=>by rw[h]⟩
 obtain⟨⟨x⟩⟩:=k;obtain⟨⟨y⟩⟩:=k'
 simpa using h
theorem eql_cmd (a b:Cmd) (w:World):(binOp .eql 24 (encCmd a) (encCmd b)).run Tryz.prog w = .ok (.bool (decide (a=b))) w:=by
 obtain⟨a1,a2,a3,a4,a5,a6,a7,a8⟩:=a
 obtain⟨b1,b2,b3,b4,b5,b6,b7,b8⟩:=b
 simp[encCmd,go_sem,toList_eq_iff]
 by_cases e1:a1=b1 <;> by_cases e2:a2=b2 <;> by_cases e3:a3=b3 <;> by_cases e4:a4=b4 <;> by_cases e5:a5=b5 <;> by_cases e6:a6=b6 <;> by_cases e7:a7=b7 <;> by_cases e8:a8=b8 <;> simp[e1,e2,e3,e4,e5,e6,e7,e8]
def mayB (c:Cmd):Bool:=decide (1≤c.kind) && decide (c.kind≤7) && decide (c=bareC c) && longB c && smallB c && decide (c.key.size≤64)
set_option maxHeartbeats 4000000 in
theorem may_any (kind node client inc req ver code:Int) (key:ByteArray) (w:World) (hk:(key.size:Int)≤9223372036854775807) :
  Calls Tryz.prog 48 #[encCmd ⟨kind,node,client,inc,req,ver,key,code⟩] w fun e w'=>e = .returned (.bool (mayB ⟨kind,node,client,inc,req,ver,key,code⟩))∧w.grownBy w' none:=by
 have heq:=fun W=>eql_cmd ⟨kind,node,client,inc,req,ver,key,code⟩ (bareC ⟨kind,node,client,inc,req,ver,key,code⟩) W
 obtain⟨bk,bn,bc,bi,br,bv,by_,bo,hb⟩:∃bk bn bc bi br bv by_ bo,bareC ⟨kind,node,client,inc,req,ver,key,code⟩=⟨bk,bn,bc,bi,br,bv,by_,bo⟩:=⟨_,_,_,_,_,_,_,_,rfl⟩
 have hbare:=fun h1 h7 W=>bare_any ⟨kind,node,client,inc,req,ver,key,code⟩ h1 h7 W
 have hm:mayB ⟨kind,node,client,inc,req,ver,key,code⟩=(decide (1≤kind) && decide (kind≤7) && decide ((⟨kind,node,client,inc,req,ver,key,code⟩:Cmd)=bareC ⟨kind,node,client,inc,req,ver,key,code⟩) && longB ⟨kind,node,client,inc,req,ver,key,code⟩ && smallB ⟨kind,node,client,inc,req,ver,key,code⟩ && decide (key.size≤64)):=rfl
 rw[hb] at heq hbare hm
 clear hb
 generalize hE:decide ((⟨kind,node,client,inc,req,ver,key,code⟩:Cmd)=⟨bk,bn,bc,bi,br,bv,by_,bo⟩)=E at heq hm
 clear hE
 have HM:=Lib.hid hm
 clear hm
 have HB:Hid (1≤kind→kind≤7→∀W,Calls Tryz.prog 106 #[(.agg #[.int .u8 kind,.int .i64 node,.int .i64 client,.int .i64 inc,.int .i64 req,.int .i64 ver,.string key,.int .i64 code]:Value)] W fun e w'=>e = .returned (.agg #[.int .u8 bk,.int .i64 bn,.int .i64 bc,.int .i64 bi,.int .i64 br,.int .i64 bv,.string by_,.int .i64 bo]:Value)∧W.grownBy w' none):=hbare
 clear hbare
 simp only[encCmd] at heq ⊢
 go_enter Tryz.func48,Tryz.ntmps48
 go_upto_region 1 with fail
 go_cut [3] (fun s wx=>s = .bool (longB ⟨kind,node,client,inc,req,ver,key,code⟩)∧wx=w.alloc (.cells #[.int .u8 kind,.int .i64 node,.int .i64 client,.int .i64 inc,.int .i64 req,.int .i64 ver,.string key,.int .i64 code] 24))
 case first=>
  clear heq
  go_wp2
  all_goals (go_meet;refine⟨?_,rfl⟩;refine longB_iff ?_;simp only[decide_eq_true_eq,eq_self_iff_true,Bool.false_eq_true,true_iff,false_iff];omega)
 case rest=>
  obtain⟨rfl,rfl⟩:=hcut
  go_upto_region 2 with fail
  go_cut [4] (fun s wx=>s = .bool (smallB ⟨kind,node,client,inc,req,ver,key,code⟩)∧wx=w.alloc (.cells #[.int .u8 kind,.int .i64 node,.int .i64 client,.int .i64 inc,.int .i64 req,.int .i64 ver,.string key,.int .i64 code] 24))
  case first=>
   clear heq
   go_wp2
   all_goals (go_meet;refine⟨?_,rfl⟩;refine smallB_iff ?_;simp only[decide_eq_true_eq,eq_self_iff_true,Bool.false_eq_true,true_iff,false_iff];omega)
  case rest=>
   obtain⟨rfl,rfl⟩:=hcut
   generalize longB ⟨kind,node,client,inc,req,ver,key,code⟩=L at *
   generalize smallB ⟨kind,node,client,inc,req,ver,key,code⟩=S at *
   go_wp2
   by_cases h1:1≤kind
   ·have hd1:decide (1≤kind)=true:=by simpa using h1
    by_cases h7:kind≤7
    ·have hd7:decide (kind≤7)=true:=by simpa using h7
     cases E
     ·skip
      refine wp_region_quiet_ext (by kernel_rfl) (by kernel_rfl) ?_
      repeat (any_goals (first|go_big_quiet_step (((go_at_call 106;exact calls_ext (HB.out h1 h7 _))))|quiet_step (((go_at_call 106;exact calls_ext (HB.out h1 h7 _))))))
      refine wpQuiet_nil ?_
      intro _ hw'
      obtain⟨x,hw''⟩:=hw'
      subst hw''
      go_wp2
      go_ret
      exact⟨by rw[HM.out];simp[hd1,hd7],by repeat (first|exact grown_refl _|exact World.grownBy_alloc _ _ _|refine grown_ext' ?_ _|refine grown_alloc ?_ _|refine grown_drew ?_)⟩
     ·cases L
      ·skip
       refine wp_region_quiet_ext (by kernel_rfl) (by kernel_rfl) ?_
       repeat (any_goals (first|go_big_quiet_step (((go_at_call 106;exact calls_ext (HB.out h1 h7 _))))|quiet_step (((go_at_call 106;exact calls_ext (HB.out h1 h7 _))))))
       refine wpQuiet_nil ?_
       intro _ hw'
       obtain⟨x,hw''⟩:=hw'
       subst hw''
       go_wp2
       go_ret
       exact⟨by rw[HM.out];simp[hd1,hd7],by repeat (first|exact grown_refl _|exact World.grownBy_alloc _ _ _|refine grown_ext' ?_ _|refine grown_alloc ?_ _|refine grown_drew ?_)⟩
      ·cases S
       ·skip
        refine wp_region_quiet_ext (by kernel_rfl) (by kernel_rfl) ?_
        repeat (any_goals (first|go_big_quiet_step (((go_at_call 106;exact calls_ext (HB.out h1 h7 _))))|quiet_step (((go_at_call 106;exact calls_ext (HB.out h1 h7 _))))))
        refine wpQuiet_nil ?_
        intro _ hw'
        obtain⟨x,hw''⟩:=hw'
        subst hw''
        go_wp2
        go_ret
        exact⟨by rw[HM.out];simp[hd1,hd7],by repeat (first|exact grown_refl _|exact World.grownBy_alloc _ _ _|refine grown_ext' ?_ _|refine grown_alloc ?_ _|refine grown_drew ?_)⟩
       ·by_cases h64:(key.size:Int)≤64
        ·have hd64:decide ((key.size:Int)≤64)=true:=by simpa using h64
         have hd64':decide (key.size≤64)=true:=by simp;omega
         refine wp_region_quiet_ext (by kernel_rfl) (by kernel_rfl) ?_
         repeat (any_goals (first|go_big_quiet_step (((go_at_call 106;exact calls_ext (HB.out h1 h7 _))))|quiet_step (((go_at_call 106;exact calls_ext (HB.out h1 h7 _))))))
         refine wpQuiet_nil ?_
         intro _ hw'
         obtain⟨x,hw''⟩:=hw'
         subst hw''
         go_wp2
         go_ret
         exact⟨by rw[HM.out];simp[hd1,hd7,hd64'],by repeat (first|exact grown_refl _|exact World.grownBy_alloc _ _ _|refine grown_ext' ?_ _|refine grown_alloc ?_ _|refine grown_drew ?_)⟩
        ·have hd64:decide ((key.size:Int)≤64)=false:=by simpa using h64
         have hd64':decide (key.size≤64)=false:=by simp;omega
         refine wp_region_quiet_ext (by kernel_rfl) (by kernel_rfl) ?_
         repeat (any_goals (first|go_big_quiet_step (((go_at_call 106;exact calls_ext (HB.out h1 h7 _))))|quiet_step (((go_at_call 106;exact calls_ext (HB.out h1 h7 _))))))
         refine wpQuiet_nil ?_
         intro _ hw'
         obtain⟨x,hw''⟩:=hw'
         subst hw''
         go_wp2
         go_ret
         exact⟨by rw[HM.out];simp[hd1,hd7,hd64'],by repeat (first|exact grown_refl _|exact World.grownBy_alloc _ _ _|refine grown_ext' ?_ _|refine grown_alloc ?_ _|refine grown_drew ?_)⟩
    ·have hd7:decide (kind≤7)=false:=by simpa using h7
     refine wp_region_quiet_ext (by kernel_rfl) (by kernel_rfl) ?_
     repeat (any_goals (first|go_big_quiet_step (fail)|quiet_step (fail)))
     refine wpQuiet_nil ?_
     intro _ hw'
     obtain⟨x,hw''⟩:=hw'
     subst hw''
     go_wp2
     go_ret
     exact⟨by rw[HM.out];simp[hd1,hd7],by repeat (first|exact grown_refl _|exact World.grownBy_alloc _ _ _|refine grown_ext' ?_ _|refine grown_alloc ?_ _|refine grown_drew ?_)⟩
   ·have hd:decide (1≤kind)=false:=by simpa using h1
    refine wp_region_quiet_ext (by kernel_rfl) (by kernel_rfl) ?_
    repeat (any_goals (first|go_big_quiet_step (fail)|quiet_step (fail)))
    refine wpQuiet_nil ?_
    intro _ hw'
    obtain⟨x,hw''⟩:=hw'
    subst hw''
    go_wp2
    go_ret
    exact⟨by rw[HM.out];simp[hd],by repeat (first|exact grown_refl _|exact World.grownBy_alloc _ _ _|refine grown_ext' ?_ _|refine grown_alloc ?_ _|refine grown_drew ?_)⟩
structure ID where
 key:ByteArray
 ver:Int
 deriving DecidableEq
def encID (i:ID):Value:=.agg #[.string i.key,.int .i64 i.ver]
theorem encID_inj (a b:ID) (h:encID a=encID b):a=b:=by
 cases a;cases b;simp[encID] at h;simp[h]
theorem checkID (em:Bool) (k:ID) (w:World):(Instr.checkKey em 10000 54 (encID k)).run Tryz.prog w = .ok () w:=by
 cases k;kernel_rfl
theorem equalID (a b:ID) (w:World):(Op.equal 54 (encID a) (encID b)).run Tryz.prog w = .ok (decide (a=b)) w:=by
 obtain⟨k,n⟩:=a
 obtain⟨k',n'⟩:=b
 simp[Op.equal,Op.maxDepth,encID,go_sem,toList_eq_iff]
 by_cases e1:k=k' <;> by_cases e2:n=n' <;> simp[e1,e2]
theorem bytes_beq_self (k:ByteArray):(k == k)=true:=by rw[beq_toListBytes];simp
theorem sameID (k:ID):Instr.sameBits 10000 (encID k) (encID k)=true:=by
 cases k;simp[encID,Instr.sameBits,bytes_beq_self]
theorem keID:KEnc Tryz.prog 54 encID:=kenc_wide (by kernel_rfl) checkID sameID encID_inj equalID
theorem keStr:KEnc Tryz.prog 9 Value.string:=kenc_plain Tryz.underlying9 (fun _=>trivial) (fun a b h=>by simpa using h)
theorem keInt:KEnc Tryz.prog 3 (Value.int .i64):=kenc_plain Tryz.underlying3 (fun _=>rfl) (fun a b h=>by simpa using h)
structure Val where
 ver:Int
 dead:Bool
def encVal (v:Val):Value:=.agg #[.int .i64 v.ver,.bool v.dead]
structure Pend where
 client:Int
 req:Int
def encPend (v:Pend):Value:=.agg #[.int .i64 v.client,.int .i64 v.req]
structure CallT where
 req:Int
 ver:Int
 done:Bool
 code:Int
def encCall (c:CallT):Value:=.agg #[.int .i64 c.req,.int .i64 c.ver,.bool c.done,.int .i64 c.code]
structure NSet where
 blk:Nat
 mem:List Int
def encSet (p:NSet):Value:=.map (some p.blk)
def encUnit (_:Unit):Value:=.agg #[]
theorem zeroVal (w:World):(zeroValue 151).run Tryz.prog w = .ok (encVal ⟨0,false⟩) w:=by kernel_rfl
theorem zeroPend (w:World):(zeroValue 130).run Tryz.prog w = .ok (encPend ⟨0,0⟩) w:=by kernel_rfl
theorem zeroCall (w:World):(zeroValue 77).run Tryz.prog w = .ok (encCall ⟨0,0,false,0⟩) w:=by kernel_rfl
theorem zeroSet (w:World):(zeroValue 127).run Tryz.prog w = .ok (.map none) w:=by kernel_rfl
theorem zeroUnit (w:World):(zeroValue 156).run Tryz.prog w = .ok (encUnit ()) w:=by kernel_rfl
@[go_sem] theorem fieldCall0 (r1 r2 r4:Int) (r3:Bool) (w:World):(Instr.field 77 (.agg #[.int .i64 r1,.int .i64 r2,.bool r3,.int .i64 r4]) 0).run Tryz.prog w = .ok (.int .i64 r1) w:=by kernel_rfl
@[go_sem] theorem fieldVal0 (r1:Int) (r3:Bool) (w:World):(Instr.field 151 (.agg #[.int .i64 r1,.bool r3]) 0).run Tryz.prog w = .ok (.int .i64 r1) w:=by kernel_rfl
def SetT (w:World) (p:NSet):Prop:=MapT w p.blk (Value.int .i64) encUnit (p.mem.map fun n=>(n,()))
structure Tab where
 w:Int
 offers:Int
 next:Int
 lives:List Int
 calls:List (Int × CallT)
 values:List (ByteArray × Val)
 pending:List (ID × Pend)
 holds:List (ID × NSet)
 refuses:List (ID × NSet)
 lb:Nat
 cb:Nat
 vb:Nat
 pb:Nat
 hb:Nat
 rb:Nat
def Tab.blocks (T:Tab) (tb:Nat):List Nat:=tb :: T.lb :: T.cb :: T.vb :: T.pb :: T.hb :: T.rb :: (T.holds.map (·.2.blk)++T.refuses.map (·.2.blk))
def Tab.cells (T:Tab):Array Value:=#[.int .i64 T.w,.int .i64 T.offers,.int .i64 T.next,.slice (some ⟨T.lb,0,none⟩) T.lives.length T.lives.length,.map (some T.cb),.map (some T.vb),.map (some T.pb),.map (some T.hb),.map (some T.rb)]
structure TRep (w:World) (tb:Nat) (T:Tab):Prop where
 cells:w.heap[tb]? = some (.cells T.cells 122 (0,0))
 lives:w.heap[T.lb]? = some (.cells (T.lives.map (Value.int .i64)).toArray 2 (0,0))
 calls:MapT w T.cb (Value.int .i64) encCall T.calls
 values:MapT w T.vb Value.string encVal T.values
 pending:MapT w T.pb encID encPend T.pending
 holds:MapT w T.hb encID encSet T.holds
 refuses:MapT w T.rb encID encSet T.refuses
 hsets:∀x∈T.holds,SetT w x.2
 rsets:∀x∈T.refuses,SetT w x.2
 nodup:(T.blocks tb).Nodup
theorem TRep.lt {w:World} {tb:Nat} {T:Tab} (h:TRep w tb T):∀b∈T.blocks tb,b<w.heap.size:=by
 intro b hb
 simp only[Tab.blocks,List.mem_cons,List.mem_append,List.mem_map] at hb
 rcases hb with rfl|rfl|rfl|rfl|rfl|rfl|rfl|⟨x,hx,rfl⟩|⟨x,hx,rfl⟩
 ·exact(Array.getElem?_eq_some_iff.1 h.cells).1
 ·exact(Array.getElem?_eq_some_iff.1 h.lives).1
 ·exact h.calls.lt
 ·exact h.values.lt
 ·exact h.pending.lt
 ·exact h.holds.lt
 ·exact h.refuses.lt
 ·exact MapT.lt (h.hsets x hx)
 ·exact MapT.lt (h.rsets x hx)
theorem TRep.grown {w W:World} {tb:Nat} {T:Tab} (h:TRep w tb T) (hg:w.grownBy W none):TRep W tb T where
 cells:=(hg.block _ (h.lt _ (by simp[Tab.blocks])) (by simp)).trans h.cells
 lives:=(hg.block _ (h.lt _ (by simp[Tab.blocks])) (by simp)).trans h.lives
 calls:=h.calls.kept hg (by simp)
 values:=h.values.kept hg (by simp)
 pending:=h.pending.kept hg (by simp)
 holds:=h.holds.kept hg (by simp)
 refuses:=h.refuses.kept hg (by simp)
 hsets:=fun x hx=>MapT.kept (h.hsets x hx) hg (by simp)
 rsets:=fun x hx=>MapT.kept (h.rsets x hx) hg (by simp)
 nodup:=h.nodup
theorem cell_block {w:World} {b:Nat} {c:Array Value} {t:TypeId} {fr:Nat × Nat} (h:w.heap[b]? = some (.cells c t fr)) (i:Nat):w.cell? ⟨b,i,none⟩=c[i]?:=by
 simp[World.cell?,h]
theorem free_block {w:World} {b:Nat} {c:Array Value} {t:TypeId} (h:w.heap[b]? = some (.cells c t (0,0))) (i:Nat):w.frozen? ⟨b,i,none⟩=false:=by
 simp[World.frozen?,h]
theorem TRep.c0 {w:World} {tb:Nat} {T:Tab} (h:TRep w tb T):w.cell? ⟨tb,0,none⟩=some (.int .i64 T.w):=(cell_block h.cells 0).trans rfl
theorem TRep.c1 {w:World} {tb:Nat} {T:Tab} (h:TRep w tb T):w.cell? ⟨tb,1,none⟩=some (.int .i64 T.offers):=(cell_block h.cells 1).trans rfl
theorem TRep.c2 {w:World} {tb:Nat} {T:Tab} (h:TRep w tb T):w.cell? ⟨tb,2,none⟩=some (.int .i64 T.next):=(cell_block h.cells 2).trans rfl
theorem TRep.c3 {w:World} {tb:Nat} {T:Tab} (h:TRep w tb T):w.cell? ⟨tb,3,none⟩=some (.slice (some ⟨T.lb,0,none⟩) T.lives.length T.lives.length):=(cell_block h.cells 3).trans rfl
theorem TRep.c4 {w:World} {tb:Nat} {T:Tab} (h:TRep w tb T):w.cell? ⟨tb,4,none⟩=some (.map (some T.cb)):=(cell_block h.cells 4).trans rfl
theorem TRep.c5 {w:World} {tb:Nat} {T:Tab} (h:TRep w tb T):w.cell? ⟨tb,5,none⟩=some (.map (some T.vb)):=(cell_block h.cells 5).trans rfl
theorem TRep.c6 {w:World} {tb:Nat} {T:Tab} (h:TRep w tb T):w.cell? ⟨tb,6,none⟩=some (.map (some T.pb)):=(cell_block h.cells 6).trans rfl
theorem TRep.c7 {w:World} {tb:Nat} {T:Tab} (h:TRep w tb T):w.cell? ⟨tb,7,none⟩=some (.map (some T.hb)):=(cell_block h.cells 7).trans rfl
theorem TRep.c8 {w:World} {tb:Nat} {T:Tab} (h:TRep w tb T):w.cell? ⟨tb,8,none⟩=some (.map (some T.rb)):=(cell_block h.cells 8).trans rfl
theorem TRep.free {w:World} {tb:Nat} {T:Tab} (h:TRep w tb T) (i:Nat):w.frozen? ⟨tb,i,none⟩=false:=free_block h.cells i
theorem TRep.life {w:World} {tb:Nat} {T:Tab} (h:TRep w tb T) (n:Nat) (hn:n<T.lives.length):w.cell? ⟨T.lb,n,none⟩=some (.int .i64 (T.lives.getD n 0)):=by
 rw[cell_block h.lives n]
 simp[hn]
theorem TRep.lfree {w:World} {tb:Nat} {T:Tab} (h:TRep w tb T) (i:Nat):w.frozen? ⟨T.lb,i,none⟩=false:=free_block h.lives i
theorem TRep.tlt {w:World} {tb:Nat} {T:Tab} (h:TRep w tb T):tb<w.heap.size:=h.lt _ (by simp[Tab.blocks])
theorem TRep.llt {w:World} {tb:Nat} {T:Tab} (h:TRep w tb T):T.lb<w.heap.size:=h.lt _ (by simp[Tab.blocks])
section
variable {w w1 : World} {tb : Nat} {T : Tab}
theorem TRep.upd_pending (h:TRep w tb T) {m:List (ID × Pend)} (hm:MapT w1 T.pb encID encPend m) (hg:w.grownBy w1 (some T.pb)):TRep w1 tb { T with pending:=m }:=by
 have nd:=h.nodup
 simp only[Tab.blocks,List.nodup_cons,List.mem_cons,List.mem_append,List.mem_map,not_or,not_exists,not_and] at nd
 exact {
  cells:=(hg.block _ h.tlt (by simp;omega)).trans h.cells
  lives:=(hg.block _ h.llt (by simp;omega)).trans h.lives
  calls:=h.calls.kept hg (by simp;omega)
  values:=h.values.kept hg (by simp;omega)
  pending:=hm
  holds:=h.holds.kept hg (by simp;omega)
  refuses:=h.refuses.kept hg (by simp;omega)
  hsets:=fun x hx=>MapT.kept (h.hsets x hx) hg (by have:=nd.2.2.2.2.1.2.2.1 x hx;simpa using this)
  rsets:=fun x hx=>MapT.kept (h.rsets x hx) hg (by have:=nd.2.2.2.2.1.2.2.2 x hx;simpa using this)
  nodup:=h.nodup }
theorem TRep.upd_calls (h:TRep w tb T) {m:List (Int × CallT)} (hm:MapT w1 T.cb (Value.int .i64) encCall m) (hg:w.grownBy w1 (some T.cb)):TRep w1 tb { T with calls:=m }:=by
 have nd:=h.nodup
 simp only[Tab.blocks,List.nodup_cons,List.mem_cons,List.mem_append,List.mem_map,not_or,not_exists,not_and] at nd
 exact {
  cells:=(hg.block _ h.tlt (by simp;omega)).trans h.cells
  lives:=(hg.block _ h.llt (by simp;omega)).trans h.lives
  calls:=hm
  values:=h.values.kept hg (by simp;omega)
  pending:=h.pending.kept hg (by simp;omega)
  holds:=h.holds.kept hg (by simp;omega)
  refuses:=h.refuses.kept hg (by simp;omega)
  hsets:=fun x hx=>MapT.kept (h.hsets x hx) hg (by have:=nd.2.2.1.2.2.2.2.1 x hx;simpa using this)
  rsets:=fun x hx=>MapT.kept (h.rsets x hx) hg (by have:=nd.2.2.1.2.2.2.2.2 x hx;simpa using this)
  nodup:=h.nodup }
theorem TRep.upd_values (h:TRep w tb T) {m:List (ByteArray × Val)} (hm:MapT w1 T.vb Value.string encVal m) (hg:w.grownBy w1 (some T.vb)):TRep w1 tb { T with values:=m }:=by
 have nd:=h.nodup
 simp only[Tab.blocks,List.nodup_cons,List.mem_cons,List.mem_append,List.mem_map,not_or,not_exists,not_and] at nd
 exact {
  cells:=(hg.block _ h.tlt (by simp;omega)).trans h.cells
  lives:=(hg.block _ h.llt (by simp;omega)).trans h.lives
  calls:=h.calls.kept hg (by simp;omega)
  values:=hm
  pending:=h.pending.kept hg (by simp;omega)
  holds:=h.holds.kept hg (by simp;omega)
  refuses:=h.refuses.kept hg (by simp;omega)
  hsets:=fun x hx=>MapT.kept (h.hsets x hx) hg (by have:=nd.2.2.2.1.2.2.2.1 x hx;simpa using this)
  rsets:=fun x hx=>MapT.kept (h.rsets x hx) hg (by have:=nd.2.2.2.1.2.2.2.2 x hx;simpa using this)
  nodup:=h.nodup }
end
end Go.Proofs.YtjfelfjobeeenaaGreat
