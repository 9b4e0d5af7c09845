/- starfishref25.May: the walk. Conditions: none, or as the theorems say. -/
import Derived.Test.YtjfelfjobeeenaaGreatN4
namespace Go.Proofs.YtjfelfjobeeenaaGreat
set_option maxHeartbeats 200000000
set_option linter.unusedVariables false
set_option linter.unusedSimpArgs false
open Go.RowKit Go.Sf
theorem beqE (k:ByteArray):k.toList.isEmpty=decide (k=⟨#[]⟩):=by
 rw[Bool.eq_iff_iff,decide_eq_true_iff];obtain⟨⟨x⟩⟩:=k;rw[ByteArray.toList_eq];simp
theorem Yq {a b:Bool} (h:a=b):Ending.returned (.bool a) = .returned (.bool b):=by rw[h]
set_option maxRecDepth 100000 in
theorem rbare_1 (node zvw zvx zvy zvz code:Int) (key:ByteArray) (W:World) :
  Calls Tryz.prog 46 #[zp ⟨1,node,zvw,zvx,zvy,zvz,key,code⟩] W fun e w'=>e = .returned (.bool (decide ((⟨1,node,zvw,zvx,zvy,zvz,key,code⟩:Cmd)=vj ⟨1,node,zvw,zvx,zvy,zvz,key,code⟩)))∧W.grownBy w' none:=by
 have hb:=beqE key;obtain⟨B,hB⟩:∃B,B=decide ((⟨1,node,zvw,zvx,zvy,zvz,key,code⟩:Cmd)=vj ⟨1,node,zvw,zvx,zvy,zvz,key,code⟩):=⟨_,rfl⟩;rw[←hB];have HB:=za hB;clear hB;simp only[zp]
 go_enter Tryz.func46,Tryz.ntmps46
 go_wp2
 all_goals
  go_ret
  refine⟨Yq ?_,zc W _ none⟩;rw[HB.out];simp[vj, *] <;> rfl
set_option maxRecDepth 100000 in
theorem rbare_2 (node zvw zvx zvy zvz code:Int) (key:ByteArray) (W:World) :
  Calls Tryz.prog 46 #[zp ⟨2,node,zvw,zvx,zvy,zvz,key,code⟩] W fun e w'=>e = .returned (.bool (decide ((⟨2,node,zvw,zvx,zvy,zvz,key,code⟩:Cmd)=vj ⟨2,node,zvw,zvx,zvy,zvz,key,code⟩)))∧W.grownBy w' none:=by
 have hb:=beqE key;obtain⟨B,hB⟩:∃B,B=decide ((⟨2,node,zvw,zvx,zvy,zvz,key,code⟩:Cmd)=vj ⟨2,node,zvw,zvx,zvy,zvz,key,code⟩):=⟨_,rfl⟩;rw[←hB];have HB:=za hB;clear hB;simp only[zp]
 go_enter Tryz.func46,Tryz.ntmps46
 go_wp2
 all_goals
  go_ret
  refine⟨Yq ?_,zc W _ none⟩;rw[HB.out];simp[vj, *] <;> rfl
set_option maxRecDepth 100000 in
theorem rbare_3 (node zvw zvx zvy zvz code:Int) (key:ByteArray) (W:World) :
  Calls Tryz.prog 46 #[zp ⟨3,node,zvw,zvx,zvy,zvz,key,code⟩] W fun e w'=>e = .returned (.bool (decide ((⟨3,node,zvw,zvx,zvy,zvz,key,code⟩:Cmd)=vj ⟨3,node,zvw,zvx,zvy,zvz,key,code⟩)))∧W.grownBy w' none:=by
 have hb:=beqE key;obtain⟨B,hB⟩:∃B,B=decide ((⟨3,node,zvw,zvx,zvy,zvz,key,code⟩:Cmd)=vj ⟨3,node,zvw,zvx,zvy,zvz,key,code⟩):=⟨_,rfl⟩;rw[←hB];have HB:=za hB;clear hB;simp only[zp]
 go_enter Tryz.func46,Tryz.ntmps46
 go_wp2
 all_goals
  go_ret
  refine⟨Yq ?_,zc W _ none⟩;rw[HB.out];simp[vj, *] <;> rfl
set_option maxRecDepth 100000 in
theorem rbare_4 (node zvw zvx zvy zvz code:Int) (key:ByteArray) (W:World) :
  Calls Tryz.prog 46 #[zp ⟨4,node,zvw,zvx,zvy,zvz,key,code⟩] W fun e w'=>e = .returned (.bool (decide ((⟨4,node,zvw,zvx,zvy,zvz,key,code⟩:Cmd)=vj ⟨4,node,zvw,zvx,zvy,zvz,key,code⟩)))∧W.grownBy w' none:=by
 have hb:=beqE key;obtain⟨B,hB⟩:∃B,B=decide ((⟨4,node,zvw,zvx,zvy,zvz,key,code⟩:Cmd)=vj ⟨4,node,zvw,zvx,zvy,zvz,key,code⟩):=⟨_,rfl⟩;rw[←hB];have HB:=za hB;clear hB;simp only[zp]
 go_enter Tryz.func46,Tryz.ntmps46
 go_wp2
 all_goals
  go_ret
  refine⟨Yq ?_,zc W _ none⟩;rw[HB.out];simp[vj, *] <;> rfl
set_option maxRecDepth 100000 in
theorem rbare_5 (node zvw zvx zvy zvz code:Int) (key:ByteArray) (W:World) :
  Calls Tryz.prog 46 #[zp ⟨5,node,zvw,zvx,zvy,zvz,key,code⟩] W fun e w'=>e = .returned (.bool (decide ((⟨5,node,zvw,zvx,zvy,zvz,key,code⟩:Cmd)=vj ⟨5,node,zvw,zvx,zvy,zvz,key,code⟩)))∧W.grownBy w' none:=by
 have hb:=beqE key;obtain⟨B,hB⟩:∃B,B=decide ((⟨5,node,zvw,zvx,zvy,zvz,key,code⟩:Cmd)=vj ⟨5,node,zvw,zvx,zvy,zvz,key,code⟩):=⟨_,rfl⟩;rw[←hB];have HB:=za hB;clear hB;simp only[zp]
 go_enter Tryz.func46,Tryz.ntmps46
 go_wp2
 all_goals
  go_ret
  refine⟨Yq ?_,zc W _ none⟩;rw[HB.out];simp[vj, *] <;> rfl
set_option maxRecDepth 100000 in
theorem rbare_6 (node zvw zvx zvy zvz code:Int) (key:ByteArray) (W:World) :
  Calls Tryz.prog 46 #[zp ⟨6,node,zvw,zvx,zvy,zvz,key,code⟩] W fun e w'=>e = .returned (.bool (decide ((⟨6,node,zvw,zvx,zvy,zvz,key,code⟩:Cmd)=vj ⟨6,node,zvw,zvx,zvy,zvz,key,code⟩)))∧W.grownBy w' none:=by
 have hb:=beqE key;obtain⟨B,hB⟩:∃B,B=decide ((⟨6,node,zvw,zvx,zvy,zvz,key,code⟩:Cmd)=vj ⟨6,node,zvw,zvx,zvy,zvz,key,code⟩):=⟨_,rfl⟩;rw[←hB];have HB:=za hB;clear hB;simp only[zp]
 go_enter Tryz.func46,Tryz.ntmps46
 go_wp2
 all_goals
  go_ret
  refine⟨Yq ?_,zc W _ none⟩;rw[HB.out];simp[vj, *] <;> rfl
set_option maxRecDepth 100000 in
theorem rbare_7 (node zvw zvx zvy zvz code:Int) (key:ByteArray) (W:World) :
  Calls Tryz.prog 46 #[zp ⟨7,node,zvw,zvx,zvy,zvz,key,code⟩] W fun e w'=>e = .returned (.bool (decide ((⟨7,node,zvw,zvx,zvy,zvz,key,code⟩:Cmd)=vj ⟨7,node,zvw,zvx,zvy,zvz,key,code⟩)))∧W.grownBy w' none:=by
 have hb:=beqE key;obtain⟨B,hB⟩:∃B,B=decide ((⟨7,node,zvw,zvx,zvy,zvz,key,code⟩:Cmd)=vj ⟨7,node,zvw,zvx,zvy,zvz,key,code⟩):=⟨_,rfl⟩;rw[←hB];have HB:=za hB;clear hB;simp only[zp]
 go_enter Tryz.func46,Tryz.ntmps46
 go_wp2
 all_goals
  go_ret
  refine⟨Yq ?_,zc W _ none⟩;rw[HB.out];simp[vj, *] <;> rfl
theorem zr5 (c:Cmd) (h1:1≤c.kind) (h7:c.kind≤7) (W:World):Calls Tryz.prog 46 #[zp c] W fun e w'=>e = .returned (.bool (decide (c=vj c)))∧W.grownBy w' none:=by
 obtain⟨kind,node,zvw,zvx,zvy,zvz,key,code⟩:=c;simp only at h1 h7;have h:kind=1∨kind=2∨kind=3∨kind=4∨kind=5∨kind=6∨kind=7:=by omega
 rcases h with rfl|rfl|rfl|rfl|rfl|rfl|rfl
 ·exact rbare_1 _ _ _ _ _ _ _ _
 ·exact rbare_2 _ _ _ _ _ _ _ _
 ·exact rbare_3 _ _ _ _ _ _ _ _
 ·exact rbare_4 _ _ _ _ _ _ _ _
 ·exact rbare_5 _ _ _ _ _ _ _ _
 ·exact rbare_6 _ _ _ _ _ _ _ _
 ·exact rbare_7 _ _ _ _ _ _ _ _
def Qy (x:Int):Bool:=decide (0≤x∧x≤4611686018427387904)
set_option maxRecDepth 100000 in
theorem rlong (x:Int) (W:World):Calls Tryz.prog 47 #[.int .i64 x] W fun e w'=>e = .returned (.bool (Qy x))∧w'=W:=by
 by_cases h0:0≤x
 ·by_cases h1:x≤4611686018427387904
  all_goals
   go_enter Tryz.func47,Tryz.ntmps47
   go_wp2
   go_ret
   exact⟨Yq (by simp[Qy,h0,h1]),rfl⟩
 ·go_enter Tryz.func47,Tryz.ntmps47
  go_wp2
  go_ret
  exact⟨Yq (by simp[Qy];omega),rfl⟩
theorem may_eq (kind node zvw zvx zvy zvz code:Int) (key:ByteArray):ua ⟨kind,node,zvw,zvx,zvy,zvz,key,code⟩=(decide (1≤kind) && decide (kind≤7) && decide ((⟨kind,node,zvw,zvx,zvy,zvz,key,code⟩:Cmd)=vj ⟨kind,node,zvw,zvx,zvy,zvz,key,code⟩) && decide (0≤node) && decide (node<255) && decide (0≤zvw) && decide (zvw≤65535) && Qy zvx && Qy zvy && Qy zvz && decide ((key.size:Int)≤64) && decide (0≤code) && decide (code≤65535)):=by
 rw[Bool.eq_iff_iff];simp only[ua,zcg,Qf,Qy,Bool.and_eq_true,decide_eq_true_eq]
 constructor
 ·rintro⟨⟨⟨⟨⟨a,b⟩,c⟩,d⟩,e⟩,f⟩
  exact⟨⟨⟨⟨⟨⟨⟨⟨⟨⟨⟨⟨a,b⟩,c⟩,by omega⟩,by omega⟩,by omega⟩,by omega⟩,by omega⟩,by omega⟩,by omega⟩,by omega⟩,by omega⟩,by omega⟩
 ·rintro⟨⟨⟨⟨⟨⟨⟨⟨⟨⟨⟨⟨a,b⟩,c⟩,d⟩,e⟩,f⟩,g⟩,h⟩,i⟩,j⟩,k⟩,l⟩,m⟩
  exact⟨⟨⟨⟨⟨a,b⟩,c⟩,by omega⟩,by omega⟩,by omega⟩
theorem zd4 {W w:World} {a0 a1 a2 a3 a4 a5 a6 a7:Value} {t:TypeId} (h:(W.alloc (.cells #[a0,a1,a2,a3,a4,a5,a6,a7] t)).grownBy w none) :
  w.cell? ⟨W.heap.size,0,none⟩=some a0∧w.cell? ⟨W.heap.size,1,none⟩=some a1∧w.cell? ⟨W.heap.size,2,none⟩=some a2∧w.cell? ⟨W.heap.size,3,none⟩=some a3∧w.cell? ⟨W.heap.size,4,none⟩=some a4∧w.cell? ⟨W.heap.size,5,none⟩=some a5∧w.cell? ⟨W.heap.size,6,none⟩=some a6∧w.cell? ⟨W.heap.size,7,none⟩=some a7:=by
 have e:=(h.block W.heap.size (by simp) (by simp)).trans (heap_alloc_new W _)
 refine⟨?_,?_,?_,?_,?_,?_,?_,?_⟩ <;> simp[World.cell?,e]
set_option maxRecDepth 100000 in
theorem zbl (c:Cmd) (hk:(c.key.size:Int)≤9223372036854775807) (W:World):Calls Tryz.prog 11 #[zp c] W fun e w'=>e = .returned (.bool (ua c))∧W.grownBy w' none:=by
 obtain⟨kind,node,zvw,zvx,zvy,zvz,key,code⟩:=c;simp only at hk;have hm:=may_eq kind node zvw zvx zvy zvz code key;have hbare:=fun h1 h7 W=>zr5 ⟨kind,node,zvw,zvx,zvy,zvz,key,code⟩ h1 h7 W
 generalize hE:decide ((⟨kind,node,zvw,zvx,zvy,zvz,key,code⟩:Cmd)=vj ⟨kind,node,zvw,zvx,zvy,zvz,key,code⟩)=E at hm hbare;clear hE;have HB:Hid (1≤kind→kind≤7→∀W,Calls Tryz.prog 46 #[(.agg #[.int .u8 kind,.int .i64 node,.int .i64 zvw,.int .i64 zvx,.int .i64 zvy,.int .i64 zvz,.string key,.int .i64 code]:Value)] W fun e w'=>e = .returned (.bool E)∧W.grownBy w' none):=hbare
 clear hbare;have L1:=za (rlong zvx);have L2:=za (rlong zvy);have L3:=za (rlong zvz);generalize Qy zvx=B1 at *;generalize Qy zvy=B2 at *;generalize Qy zvz=B3 at *;have HM:=za hm;clear hm;simp only[zp]
 go_enter Tryz.func11,Tryz.ntmps11
 go_wp2_with (first
  | (go_at_call 46;refine(HB.out (by assumption) (by assumption) _).mono ?_;rintro e w1 ⟨rfl,hg⟩;obtain⟨d0,d1,d2,d3,d4,d5,d6,d7⟩:=zd4 hg;have HG:=za hg;clear hg)
  | (go_at_call 47;(first|refine(L1.out _).mono ?_|refine(L2.out _).mono ?_|refine(L3.out _).mono ?_);rintro e w2 ⟨rfl,rfl⟩))
 all_goals
  go_ret
  refine⟨Yq ?_,?_⟩
  ·rw[HM.out];simp[*] <;> intros <;> omega
  ·first|exact zc W _ none|exact ze (zc W _ none) HG.out
structure ID where
 key:ByteArray
 zvz:Int
 deriving DecidableEq
def zx (i:ID):Value:=.agg #[.string i.key,.int .i64 i.zvz]
theorem Vb (a b:ID) (h:zx a=zx b):a=b:=by
 cases a;cases b;simp[zx] at h;simp[h]
theorem checkID (em:Bool) (k:ID) (w:World):(Instr.checkKey em 10000 54 (zx k)).run Tryz.prog w = .ok () w:=by
 cases k;kernel_rfl
theorem equalID (a b:ID) (w:World):(Op.equal 54 (zx a) (zx b)).run Tryz.prog w = .ok (decide (a=b)) w:=by
 obtain⟨k,n⟩:=a;obtain⟨k',n'⟩:=b;simp[Op.equal,Op.maxDepth,zx,go_sem,qb]
 by_cases e1:k=k' <;> by_cases e2:n=n' <;> simp[e1,e2]
theorem Xj (k:ByteArray):(k == k)=true:=by rw[beq_toListBytes];simp
theorem sameID (k:ID):Instr.sameBits 10000 (zx k) (zx k)=true:=by
 cases k;simp[zx,Instr.sameBits,Xj]
theorem zdf:zck Tryz.prog 54 zx:=zrc (by kernel_rfl) checkID sameID Vb equalID
theorem zma:zck Tryz.prog 9 Value.string:=zg1 Tryz.underlying9 (fun _=>trivial) (fun a b h=>by simpa using h)
theorem Qn:zck Tryz.prog 3 (Value.int .i64):=zg1 Tryz.underlying3 (fun _=>rfl) (fun a b h=>by simpa using h)
structure Val where
 zvz:Int
 dead:Bool
def Ya (v:Val):Value:=.agg #[.int .i64 v.zvz,.bool v.dead]
structure xd where
 zvw:Int
 zvy:Int
def xw (v:xd):Value:=.agg #[.int .i64 v.zvw,.int .i64 v.zvy]
structure yz where
 zvy:Int
 zvz:Int
 done:Bool
 code:Int
def qt (c:yz):Value:=.agg #[.int .i64 c.zvy,.int .i64 c.zvz,.bool c.done,.int .i64 c.code]
structure ye where
 blk:Nat
 mem:List Int
def yw (p:ye):Value:=.map (some p.blk)
def Yd (_:Unit):Value:=.agg #[]
theorem zqu (w:World):(zeroValue 151).run Tryz.prog w = .ok (Ya ⟨0,false⟩) w:=by kernel_rfl
theorem zh5 (w:World):(zeroValue 130).run Tryz.prog w = .ok (xw ⟨0,0⟩) w:=by kernel_rfl
theorem zn6 (w:World):(zeroValue 77).run Tryz.prog w = .ok (qt ⟨0,0,false,0⟩) w:=by kernel_rfl
theorem zeroSet (w:World):(zeroValue 127).run Tryz.prog w = .ok (.map none) w:=by kernel_rfl
theorem zvs (w:World):(zeroValue 156).run Tryz.prog w = .ok (Yd ()) w:=by kernel_rfl
@[go_sem] theorem fieldCall0 (r1 r2 r4:Int) (r3:Bool) (w:World):(Instr.field 77 (.agg #[.int .i64 r1,.int .i64 r2,.bool r3,.int .i64 r4]) 0).run Tryz.prog w = .ok (.int .i64 r1) w:=by kernel_rfl
@[go_sem] theorem fieldVal0 (r1:Int) (r3:Bool) (w:World):(Instr.field 151 (.agg #[.int .i64 r1,.bool r3]) 0).run Tryz.prog w = .ok (.int .i64 r1) w:=by kernel_rfl
def qr (w:World) (p:ye):Prop:=zw w p.blk (Value.int .i64) Yd (p.mem.map fun n=>(n,()))
structure Tab where
 w:Int
 offers:Int
 next:Int
 zv0:List Int
 calls:List (Int × yz)
 values:List (ByteArray × Val)
 pending:List (ID × xd)
 holds:List (ID × ye)
 zv2:List (ID × ye)
 lb:Nat
 cb:Nat
 vb:Nat
 pb:Nat
 hb:Nat
 rb:Nat
def Tab.blocks (T:Tab) (tb:Nat):List Nat:=tb :: T.lb :: T.cb :: T.vb :: T.pb :: T.hb :: T.rb :: (T.holds.map (·.2.blk)++T.zv2.map (·.2.blk))
def Tab.cells (T:Tab):Array Value:=#[.int .i64 T.w,.int .i64 T.offers,.int .i64 T.next,.slice (some ⟨T.lb,0,none⟩) T.zv0.length T.zv0.length,.map (some T.cb),.map (some T.vb),.map (some T.pb),.map (some T.hb),.map (some T.rb)]
structure yh (w:World) (tb:Nat) (T:Tab):Prop where
 cells:w.heap[tb]? = some (.cells T.cells 122 (0,0))
 zv0:w.heap[T.lb]? = some (.cells (T.zv0.map (Value.int .i64)).toArray 2 (0,0))
 calls:zw w T.cb (Value.int .i64) qt T.calls
 values:zw w T.vb Value.string Ya T.values
 pending:zw w T.pb zx xw T.pending
 holds:zw w T.hb zx yw T.holds
 zv2:zw w T.rb zx yw T.zv2
 hsets:∀x∈T.holds,qr w x.2
 rsets:∀x∈T.zv2,qr w x.2
 nodup:(T.blocks tb).Nodup
theorem yh.lt {w:World} {tb:Nat} {T:Tab} (h:yh w tb T):∀b∈T.blocks tb,b<w.heap.size:=by
 intro b hb;simp only[Tab.blocks,List.mem_cons,List.mem_append,List.mem_map] at hb
 rcases hb with rfl|rfl|rfl|rfl|rfl|rfl|rfl|⟨x,hx,rfl⟩|⟨x,hx,rfl⟩
 ·exact(Array.getElem?_eq_some_iff.1 h.cells).1
 ·exact(Array.getElem?_eq_some_iff.1 h.zv0).1
 ·exact h.calls.lt
 ·exact h.values.lt
 ·exact h.pending.lt
 ·exact h.holds.lt
 ·exact h.zv2.lt
 ·exact zw.lt (h.hsets x hx)
 ·exact zw.lt (h.rsets x hx)
theorem yh.grown {w W:World} {tb:Nat} {T:Tab} (h:yh w tb T) (hg:w.grownBy W none):yh W tb T where
 cells:=(hg.block _ (h.lt _ (by simp[Tab.blocks])) (by simp)).trans h.cells
 zv0:=(hg.block _ (h.lt _ (by simp[Tab.blocks])) (by simp)).trans h.zv0
 calls:=h.calls.kept hg (by simp)
 values:=h.values.kept hg (by simp)
 pending:=h.pending.kept hg (by simp)
 holds:=h.holds.kept hg (by simp)
 zv2:=h.zv2.kept hg (by simp)
 hsets:=fun x hx=>zw.kept (h.hsets x hx) hg (by simp)
 rsets:=fun x hx=>zw.kept (h.rsets x hx) hg (by simp)
 nodup:=h.nodup
theorem zh {w:World} {b:Nat} {c:Array Value} {t:TypeId} {fr:Nat × Nat} (h:w.heap[b]? = some (.cells c t fr)) (i:Nat):w.cell? ⟨b,i,none⟩=c[i]?:=by
 simp[World.cell?,h]
theorem yr {w:World} {b:Nat} {c:Array Value} {t:TypeId} (h:w.heap[b]? = some (.cells c t (0,0))) (i:Nat):w.frozen? ⟨b,i,none⟩=false:=by
 simp[World.frozen?,h]
theorem yh.c0 {w:World} {tb:Nat} {T:Tab} (h:yh w tb T):w.cell? ⟨tb,0,none⟩=some (.int .i64 T.w):=(zh h.cells 0).trans rfl
theorem yh.c1 {w:World} {tb:Nat} {T:Tab} (h:yh w tb T):w.cell? ⟨tb,1,none⟩=some (.int .i64 T.offers):=(zh h.cells 1).trans rfl
theorem yh.c2 {w:World} {tb:Nat} {T:Tab} (h:yh w tb T):w.cell? ⟨tb,2,none⟩=some (.int .i64 T.next):=(zh h.cells 2).trans rfl
theorem yh.c3 {w:World} {tb:Nat} {T:Tab} (h:yh w tb T):w.cell? ⟨tb,3,none⟩=some (.slice (some ⟨T.lb,0,none⟩) T.zv0.length T.zv0.length):=(zh h.cells 3).trans rfl
theorem yh.c4 {w:World} {tb:Nat} {T:Tab} (h:yh w tb T):w.cell? ⟨tb,4,none⟩=some (.map (some T.cb)):=(zh h.cells 4).trans rfl
theorem yh.c5 {w:World} {tb:Nat} {T:Tab} (h:yh w tb T):w.cell? ⟨tb,5,none⟩=some (.map (some T.vb)):=(zh h.cells 5).trans rfl
theorem yh.c6 {w:World} {tb:Nat} {T:Tab} (h:yh w tb T):w.cell? ⟨tb,6,none⟩=some (.map (some T.pb)):=(zh h.cells 6).trans rfl
theorem yh.c7 {w:World} {tb:Nat} {T:Tab} (h:yh w tb T):w.cell? ⟨tb,7,none⟩=some (.map (some T.hb)):=(zh h.cells 7).trans rfl
theorem yh.c8 {w:World} {tb:Nat} {T:Tab} (h:yh w tb T):w.cell? ⟨tb,8,none⟩=some (.map (some T.rb)):=(zh h.cells 8).trans rfl
theorem yh.free {w:World} {tb:Nat} {T:Tab} (h:yh w tb T) (i:Nat):w.frozen? ⟨tb,i,none⟩=false:=yr h.cells i
theorem yh.life {w:World} {tb:Nat} {T:Tab} (h:yh w tb T) (n:Nat) (hn:n<T.zv0.length):w.cell? ⟨T.lb,n,none⟩=some (.int .i64 (T.zv0.getD n 0)):=by
 rw[zh h.zv0 n];simp[hn]
theorem yh.lfree {w:World} {tb:Nat} {T:Tab} (h:yh w tb T) (i:Nat):w.frozen? ⟨T.lb,i,none⟩=false:=yr h.zv0 i
theorem yh.tlt {w:World} {tb:Nat} {T:Tab} (h:yh w tb T):tb<w.heap.size:=h.lt _ (by simp[Tab.blocks])
theorem yh.llt {w:World} {tb:Nat} {T:Tab} (h:yh w tb T):T.lb<w.heap.size:=h.lt _ (by simp[Tab.blocks])
section
variable {w w1 : World} {tb : Nat} {T : Tab}
theorem yh.upd_pending (h:yh w tb T) {m:List (ID × xd)} (hm:zw w1 T.pb zx xw m) (hg:w.grownBy w1 (some T.pb)):yh w1 tb { T with pending:=m }:=by
 have nd:=h.nodup;simp only[Tab.blocks,List.nodup_cons,List.mem_cons,List.mem_append,List.mem_map,not_or,not_exists,not_and] at nd
 exact {
  cells:=(hg.block _ h.tlt (by simp;omega)).trans h.cells
  zv0:=(hg.block _ h.llt (by simp;omega)).trans h.zv0
  calls:=h.calls.kept hg (by simp;omega)
  values:=h.values.kept hg (by simp;omega)
  pending:=hm
  holds:=h.holds.kept hg (by simp;omega)
  zv2:=h.zv2.kept hg (by simp;omega)
  hsets:=fun x hx=>zw.kept (h.hsets x hx) hg (by have:=nd.2.2.2.2.1.2.2.1 x hx;simpa using this)
  rsets:=fun x hx=>zw.kept (h.rsets x hx) hg (by have:=nd.2.2.2.2.1.2.2.2 x hx;simpa using this)
  nodup:=h.nodup }
theorem yh.upd_calls (h:yh w tb T) {m:List (Int × yz)} (hm:zw w1 T.cb (Value.int .i64) qt m) (hg:w.grownBy w1 (some T.cb)):yh w1 tb { T with calls:=m }:=by
 have nd:=h.nodup;simp only[Tab.blocks,List.nodup_cons,List.mem_cons,List.mem_append,List.mem_map,not_or,not_exists,not_and] at nd
 exact {
  cells:=(hg.block _ h.tlt (by simp;omega)).trans h.cells
  zv0:=(hg.block _ h.llt (by simp;omega)).trans h.zv0
  calls:=hm
  values:=h.values.kept hg (by simp;omega)
  pending:=h.pending.kept hg (by simp;omega)
  holds:=h.holds.kept hg (by simp;omega)
  zv2:=h.zv2.kept hg (by simp;omega)
  hsets:=fun x hx=>zw.kept (h.hsets x hx) hg (by have:=nd.2.2.1.2.2.2.2.1 x hx;simpa using this)
  rsets:=fun x hx=>zw.kept (h.rsets x hx) hg (by have:=nd.2.2.1.2.2.2.2.2 x hx;simpa using this)
  nodup:=h.nodup }
theorem yh.upd_values (h:yh w tb T) {m:List (ByteArray × Val)} (hm:zw w1 T.vb Value.string Ya m) (hg:w.grownBy w1 (some T.vb)):yh w1 tb { T with values:=m }:=by
 have nd:=h.nodup;simp only[Tab.blocks,List.nodup_cons,List.mem_cons,List.mem_append,List.mem_map,not_or,not_exists,not_and] at nd
 exact {
  cells:=(hg.block _ h.tlt (by simp;omega)).trans h.cells
  zv0:=(hg.block _ h.llt (by simp;omega)).trans h.zv0
  calls:=h.calls.kept hg (by simp;omega)
  values:=hm
  pending:=h.pending.kept hg (by simp;omega)
  holds:=h.holds.kept hg (by simp;omega)
  zv2:=h.zv2.kept hg (by simp;omega)
  hsets:=fun x hx=>zw.kept (h.hsets x hx) hg (by have:=nd.2.2.2.1.2.2.2.1 x hx;simpa using this)
  rsets:=fun x hx=>zw.kept (h.rsets x hx) hg (by have:=nd.2.2.2.1.2.2.2.2 x hx;simpa using this)
  nodup:=h.nodup }
end
def lookV (T:Tab) (k:ByteArray):Val:=(zt T.values k).getD ⟨0,false⟩
def look (T:Tab) (k:ByteArray):Int:=if (lookV T k).dead=true then 0 else (lookV T k).zvz
def yl (T:Tab) (i:ID):Bool:=(zt T.pending i).isSome || (decide (0<i.zvz) && decide (look T i.key=i.zvz))
def callV (T:Tab) (n:Int):yz:=(zt T.calls n).getD ⟨0,0,false,0⟩
theorem zrj (T:Tab) (k:ByteArray):((zt T.values k).map Ya).getD (Ya ⟨0,false⟩) = .agg #[.int .i64 (lookV T k).zvz,.bool (lookV T k).dead]:=by
 unfold lookV;cases zt T.values k <;> rfl
theorem zqy (T:Tab) (n:Int):((zt T.calls n).map qt).getD (qt ⟨0,0,false,0⟩) = .agg #[.int .i64 (callV T n).zvy,.int .i64 (callV T n).zvz,.bool (callV T n).done,.int .i64 (callV T n).code]:=by
 unfold callV;cases zt T.calls n <;> rfl
section
variable {w : World} {tb : Nat} {T : Tab}
theorem yh.run_values (W:World) (h:zw W T.vb Value.string Ya T.values) (k:ByteArray):(Instr.lookup 118 (.map (some T.vb)) (.string k) false).run Tryz.prog W = .ok (.agg #[.int .i64 (lookV T k).zvz,.bool (lookV T k).dead]) W:=by
 rw[h.lookup zma Tryz.underlying118 (zqu W) k false,zrj];rfl
theorem yh.run_calls (W:World) (h:zw W T.cb (Value.int .i64) qt T.calls) (n:Int):(Instr.lookup 117 (.map (some T.cb)) (.int .i64 n) false).run Tryz.prog W = .ok (.agg #[.int .i64 (callV T n).zvy,.int .i64 (callV T n).zvz,.bool (callV T n).done,.int .i64 (callV T n).code]) W:=by
 rw[h.lookup Qn Tryz.underlying117 (zn6 W) n false,zqy];rfl
theorem qj (pb:Nat) (m:List (ID × xd)) (k:ByteArray) (n:Int):∃pc pr,(∀p,zt m ⟨k,n⟩=some p→p=⟨pc,pr⟩)∧∀W,zw W pb zx xw m→
  (Instr.lookup 119 (.map (some pb)) (.agg #[.string k,.int .i64 n]) true).run Tryz.prog W = .ok (.tuple #[.agg #[.int .i64 pc,.int .i64 pr],.bool (zt m ⟨k,n⟩).isSome]) W:=by
 cases hm:zt m ⟨k,n⟩ with
 | none=>
  refine⟨0,0,fun p hp=>(by cases hp),fun W hW=>?_⟩
  have:=hW.lookup zdf Tryz.underlying119 (zh5 W) ⟨k,n⟩ true;rw[hm] at this
  exact this
 | some p=>
  refine⟨p.zvw,p.zvy,fun q hq=>(by cases hq;rfl),fun W hW=>?_⟩
  have:=hW.lookup zdf Tryz.underlying119 (zh5 W) ⟨k,n⟩ true;rw[hm] at this
  exact this
structure zfy (w:World) (tb:Nat) (T:Tab):Prop where
 c5:w.cell? ⟨tb,5,none⟩=some (.map (some T.vb))
 c6:w.cell? ⟨tb,6,none⟩=some (.map (some T.pb))
 values:zw w T.vb Value.string Ya T.values
 pending:zw w T.pb zx xw T.pending
theorem yh.v (h:yh w tb T):zfy w tb T:=⟨h.c5,h.c6,h.values,h.pending⟩
theorem zfy.tlt (h:zfy w tb T):tb<w.heap.size:=yo h.c5
theorem zfy.grown {W:World} (h:zfy w tb T) (hg:w.grownBy W none):zfy W tb T:=
 ⟨hg.cell h.c5 (by simp),hg.cell h.c6 (by simp),h.values.kept hg (by simp),h.pending.kept hg (by simp)⟩
theorem ziy (h:zfy w tb T) (k:ByteArray) :
  Calls Tryz.prog 34 #[.pointer (some ⟨tb,0,none⟩),.string k] w fun e w'=>e = .returned (.int .i64 (look T k))∧w.grownBy w' none:=by
 have c5:=h.c5;have hv:=h.values;have hrun:=fun W hW=>yh.run_values (T:=T) W hW k
 have HL:Hid (look T k=if (lookV T k).dead=true then 0 else (lookV T k).zvz):=(show _=_ from rfl)
 generalize (lookV T k).dead=vd at *;generalize (lookV T k).zvz=vn at *;clear h
 go_enter Tryz.func34,Tryz.ntmps34
 go_wp2
 all_goals (go_ret;refine⟨?_,(zc w _ none)⟩;rw[HL.out];simp[*])
theorem zfw (h:zfy w tb T) (i:ID) :
  Calls Tryz.prog 36 #[.pointer (some ⟨tb,0,none⟩),zx i] w fun e w'=>e = .returned (.bool (yl T i))∧w.grownBy w' none:=by
 have c5:=h.c5;have c6:=h.c6;have hp:=h.pending;have htb:=h.tlt;obtain⟨k,n⟩:=i;obtain⟨pc,pr,_,hl⟩:=qj T.pb T.pending k n;have HL:Hid (∀W,w.grownBy W none→Calls Tryz.prog 34 #[.pointer (some ⟨tb,0,none⟩),.string k] W fun e w'=>e = .returned (.int .i64 (look T k))∧W.grownBy w' none):=fun W hg=>ziy (h.grown hg) k
 clear h;have hres:∀b,(zt T.pending ⟨k,n⟩).isSome=b→yl T ⟨k,n⟩=(b || (decide (0<n) && decide (look T k=n))):=fun b hb=>by simp[yl,hb]
 simp only[zx]
 cases hi:(zt T.pending ⟨k,n⟩).isSome
 ·have HR:=za (hres false hi)
  simp only[hi] at hl;clear hres hi
  by_cases hn:0<n
  ·by_cases he:look T k=n
   all_goals
    go_enter Tryz.func36,Tryz.ntmps36
    go_wp2
    go_region
    go_wp2;refine zo (by kernel_rfl) (by kernel_rfl) ?_
    repeat (any_goals (first|go_big_quiet_step (((go_at_call 34;exact zq (HL.out _ (by repeat (first|exact zd _|exact zc _ _ _|refine zi ?_ _|refine zg ?_ _|refine zf ?_))))))|quiet_step (((go_at_call 34;exact zq (HL.out _ (by repeat (first|exact zd _|exact zc _ _ _|refine zi ?_ _|refine zg ?_ _|refine zf ?_))))))))
    refine wpQuiet_nil ?_;intro _ hw';obtain⟨x,hw''⟩:=hw';subst hw'';go_wp2
    go_ret
    exact⟨by rw[HR.out];simp[hn,he],by repeat (first|exact zd _|exact zc _ _ _|refine zi ?_ _|refine zg ?_ _|refine zf ?_)⟩
  ·have hn':decide (0<n)=false:=by simpa using hn
   go_enter Tryz.func36,Tryz.ntmps36
   go_wp2
   go_region
   go_wp2;refine zo (by kernel_rfl) (by kernel_rfl) ?_
   repeat (any_goals (first|go_big_quiet_step (fail)|quiet_step (fail)))
   refine wpQuiet_nil ?_;intro _ hw';obtain⟨x,hw''⟩:=hw';subst hw'';go_wp2
   go_ret
   exact⟨by rw[HR.out];simp[hn'],by repeat (first|exact zd _|exact zc _ _ _|refine zi ?_ _|refine zg ?_ _|refine zf ?_)⟩
 ·have HR:=za (hres true hi)
  simp only[hi] at hl;clear hres hi
  go_enter Tryz.func36,Tryz.ntmps36
  go_wp2
  go_region
  go_wp2;refine zo (by kernel_rfl) (by kernel_rfl) ?_
  repeat (any_goals (first|go_big_quiet_step (fail)|quiet_step (fail)))
  refine wpQuiet_nil ?_;intro _ hw';obtain⟨x,hw''⟩:=hw';subst hw'';go_wp2
  go_ret
  exact⟨by rw[HR.out];simp,by repeat (first|exact zd _|exact zc _ _ _|refine zi ?_ _|refine zg ?_ _|refine zf ?_)⟩
theorem zty (h:yh w tb T) (k:ByteArray) :
  Calls Tryz.prog 34 #[.pointer (some ⟨tb,0,none⟩),.string k] w fun e w'=>e = .returned (.int .i64 (look T k))∧w.grownBy w' none:=ziy h.v k
theorem Vm (h:yh w tb T) (i:ID) :
  Calls Tryz.prog 36 #[.pointer (some ⟨tb,0,none⟩),zx i] w fun e w'=>e = .returned (.bool (yl T i))∧w.grownBy w' none:=zfw h.v i
end
def yq (T:Tab) (n:Int):Int:=if n<0∨(T.zv0.length:Int)≤n then 0 else T.zv0.getD n.toNat 0
def Vi (T:Tab) (c:Cmd):Bool:=decide (0<c.zvx) && decide (yq T c.node=c.zvx)
section
variable {w : World} {tb : Nat} {T : Tab}
theorem zt6 (h:yh w tb T):Calls Tryz.prog 31 #[.pointer (some ⟨tb,0,none⟩)] w fun e w'=>e = .returned (.int .i64 T.next)∧w.grownBy w' none:=by
 have c2:=h.c2;clear h
 go_enter Tryz.func31,Tryz.ntmps31
 go_wp2
 go_ret
 exact⟨rfl,zd _⟩
theorem zs7 (h:yh w tb T) (n:Int):Calls Tryz.prog 32 #[.pointer (some ⟨tb,0,none⟩),.int .i64 n] w fun e w'=>
  e = .returned (qt (callV T n))∧w.grownBy w' none:=by
 have c4:=h.c4;have hc:=h.calls;have htb:=h.tlt;have hrun:=fun W hW=>yh.run_calls (T:=T) W hW n
 simp only[qt];generalize (callV T n).zvy=r1 at *;generalize (callV T n).zvz=r2 at *;generalize (callV T n).done=r3 at *;generalize (callV T n).code=r4 at *;clear h
 go_enter Tryz.func32,Tryz.ntmps32
 go_wp2;refine bodyPost_ret (v:=.agg #[.int .i64 r1,.int .i64 r2,.bool r3,.int .i64 r4]) (by simp[results,Tryz.results32,go_sem]) rfl ⟨rfl,?_⟩
 repeat (first|exact zd _|exact zc _ _ _|refine zi ?_ _|refine zg ?_ _|refine zf ?_)
theorem zme (h:yh w tb T) (n:Int) (hl:T.zv0.length≤9223372036854775807):Calls Tryz.prog 23 #[.pointer (some ⟨tb,0,none⟩),.int .i64 n] w fun e w'=>
  e = .returned (.int .i64 (yq T n))∧w.grownBy w' none:=by
 have c3:=h.c3
 by_cases h0:n<0
 ·have HL:Hid (yq T n=0):=(show _=_ from if_pos (Or.inl h0))
  clear h
  go_enter Tryz.func23,Tryz.ntmps23
  go_wp2
  go_ret
  exact⟨by rw[HL.out];rfl,zd _⟩
 ·by_cases h1:(T.zv0.length:Int)≤n
  ·have HL:Hid (yq T n=0):=(show _=_ from if_pos (Or.inr h1))
   clear h
   go_enter Tryz.func23,Tryz.ntmps23
   go_wp2
   go_ret
   exact⟨by rw[HL.out];rfl,zd _⟩
  ·obtain⟨k,rfl⟩:=Int.eq_ofNat_of_zero_le (by omega:0≤n)
   have hk:k<T.zv0.length:=by omega
   have cl:=h.life k hk;have HL:Hid (yq T k=T.zv0.getD k 0):=(show _=_ from by unfold yq;rw[if_neg (by omega)];simp)
   generalize T.zv0.getD k 0=x at *;clear h
   go_enter Tryz.func23,Tryz.ntmps23
   go_wp2
   go_ret
   exact⟨by rw[HL.out];rfl,zd _⟩
theorem Qp (h:yh w tb T) (c:Cmd) (hl:T.zv0.length≤9223372036854775807) (h0:0≤c.node) (h1:c.node<T.zv0.length):Calls Tryz.prog 172 #[.pointer (some ⟨tb,0,none⟩),zp c] w fun e w'=>
  e = .returned (.bool (Vi T c))∧w.grownBy w' none:=by
 have c3:=h.c3;obtain⟨kind,node,zvw,zvx,zvy,zvz,key,code⟩:=c;simp only at h0 h1;simp only[zp];obtain⟨k,rfl⟩:=Int.eq_ofNat_of_zero_le h0;have hk:k<T.zv0.length:=by omega
 have cl:=h.life k hk;have htb:=h.tlt;have hlb:=h.llt;have HL:Hid (Vi T ⟨kind,(k:Int),zvw,zvx,zvy,zvz,key,code⟩=(decide (0<zvx) && decide (T.zv0.getD k 0=zvx))):=(show _=_ from by unfold Vi yq;simp only;rw[if_neg (by omega)];simp)
 generalize T.zv0.getD k 0=x at *;clear h
 by_cases hi:0<zvx
 ·go_enter Tryz.func172,Tryz.ntmps172
  go_wp2;refine zo (by kernel_rfl) (by kernel_rfl) ?_
  repeat (any_goals (first|go_big_quiet_step (fail)|quiet_step (fail)))
  refine wpQuiet_nil ?_;intro _ hw';obtain⟨y,hw''⟩:=hw';subst hw'';go_wp2
  go_ret
  exact⟨by rw[HL.out];simp[hi];rfl,by repeat (first|exact zd _|exact zc _ _ _|refine zi ?_ _|refine zg ?_ _|refine zf ?_)⟩
 ·have hi':decide (0<zvx)=false:=by simpa using hi
  go_enter Tryz.func172,Tryz.ntmps172
  go_wp2;refine zo (by kernel_rfl) (by kernel_rfl) ?_
  repeat (any_goals (first|go_big_quiet_step (fail)|quiet_step (fail)))
  refine wpQuiet_nil ?_;intro _ hw';obtain⟨y,hw''⟩:=hw';subst hw'';go_wp2
  go_ret
  exact⟨by rw[HL.out];simp[hi'],by repeat (first|exact zd _|exact zc _ _ _|refine zi ?_ _|refine zg ?_ _|refine zf ?_)⟩
end
end Go.Proofs.YtjfelfjobeeenaaGreat
