/- Worlds that are another one with draws and new blocks: 'ext w x' as an equation; a region that draws its order and whose. Conditions: none, or as the theorems say. -/
import Derived.Test.YtbcbhlfjgobejaaGreatS1
import Derived.Deep.QuietTactic
import Derived.BigQuiet
import Derived.Lib.AppendZerosOnto
import Derived.Deep.RegionHeld3
import Derived.Deep.DeepCutAuto
import Derived.WalkKit
import Derived.Deep.RegionLaw
import Derived.Test.YtbcbhlfjgobejaaGreatChecked
import Derived.WalkLawsBesides
import Derived.WalkSpells
import Derived.Deep.RegionWith
import Derived.Outline
import Derived.Below
set_option linter.unusedSimpArgs false
set_option linter.unusedVariables false
namespace Go.Sf
set_option maxHeartbeats 200000000
open Go.MapKept Go.RowKit
variable {P:Program} {a w:World}
structure Ext where
 d:Nat
 os:Array Obj
 deriving Inhabited
def ext (w:World) (x:Ext):World:={ w with heap:=w.heap++x.os,drawn:=x.d }
theorem zgr {w':World} (h:w.grownBy w' none):∃x,w'=ext w x:=by
 refine⟨⟨w'.drawn,w'.heap.extract w.heap.size w'.heap.size⟩,?_⟩;have e:w'.heap=w.heap++w'.heap.extract w.heap.size w'.heap.size:=by
  apply Array.ext_getElem?
  intro k;rw[Array.getElem?_append]
  split
  ·rename_i hk;exact h.block k hk (by simp)
  ·rename_i hk
   rw[Array.getElem?_extract]
   split
   ·congr 1;omega
   ·rw[Array.getElem?_eq_none];have:=h.size;omega
 obtain⟨h1,h2,h3,_,_⟩:=h
 cases w;cases w'
 simp only[ext] at *;subst h1;subst h2;subst h3;rw[←e]
section
variable (w : World) (x y : Ext) (a : Addr)
@[go_sem] theorem size_ext:(ext w x).heap.size=w.heap.size+x.os.size:=by simp[ext]
theorem zdn {k:Nat} (h:k<w.heap.size):(ext w x).heap[k]? = w.heap[k]?:=by simp[ext,Array.getElem?_append,h]
@[go_sem] theorem zde (h:a.block<w.heap.size):(ext w x).cell? a=w.cell? a:=by simp only[World.cell?,zdn w x h]
@[go_sem] theorem frozen_ext (h:a.block<w.heap.size):(ext w x).frozen? a=w.frozen? a:=by simp only[World.frozen?,zdn w x h]
@[go_sem] theorem drew_ext:(ext w x).drew=ext w ⟨x.d+1,x.os⟩:=rfl
@[go_sem] theorem ext_drew:ext w.drew x=ext w x:=rfl
@[go_sem] theorem ext_ext:ext (ext w x) y=ext w ⟨y.d,x.os++y.os⟩:=by simp[ext,Array.append_assoc]
theorem ux:w.grownBy (ext w x) none:=⟨rfl,rfl,rfl,by simp[ext],λk hk _=>zdn w x hk⟩
@[go_sem] theorem mapT_ext {K V:Type} {ek:K→Value} {ev:V→Value} {b:Nat} {m:List (K × V)} (h:yg w b ek ev m):yg (ext w x) b ek ev m:=h.kept (ux w x) (by simp)
@[go_sem] theorem mapT_ext1 {K V:Type} {ek:K→Value} {ev:V→Value} {b:Nat} {m:List (K × V)} (o:Obj) (h:yg w b ek ev m):yg (ext (w.alloc o) x) b ek ev m:=(h.alloc o).kept (ux _ x) (by simp)
@[go_sem] theorem mapT_ext2 {K V:Type} {ek:K→Value} {ev:V→Value} {b:Nat} {m:List (K × V)} (o o':Obj) (h:yg w b ek ev m):yg (ext ((w.alloc o).alloc o') x) b ek ev m:=((h.alloc o).alloc o').kept (ux _ x) (by simp)
@[go_sem] theorem mapT_ext1b {K V:Type} {ek:K→Value} {ev:V→Value} {b:Nat} {m:List (K × V)} (o:Obj) (h:yg w b ek ev m):yg ((ext w x).alloc o) b ek ev m:=(h.kept (ux _ x) (by simp)).alloc o
end
theorem zh {b c:World} (h:a.grownBy b none) (k:b.grownBy c none):a.grownBy c none:=
 ⟨k.os.trans h.os,k.tape.trans h.tape,k.output.trans h.output,Nat.le_trans h.size k.size,λi hi hn=>(k.block i (Nat.lt_of_lt_of_le hi h.size) hn).trans (h.block i hi hn)⟩
theorem zi (w:World):w.grownBy w none:=⟨rfl,rfl,rfl,Nat.le_refl _,λ_ _ _=>rfl⟩
theorem zp (h:a.grownBy w none) (o:Obj):a.grownBy (w.alloc o) none:=zh h (ze w o none)
theorem zj (h:a.grownBy w none):a.grownBy w.drew none:=zh h ⟨rfl,rfl,rfl,Nat.le_refl _,λ_ _ _=>rfl⟩
theorem vu (h:a.grownBy w none) (x:Ext):a.grownBy (ext w x) none:=zh h (ux w x)
theorem yi (h:a.grownBy w none) {p:Addr} (hp:a.heap.size≤p.block) (u:Value):a.grownBy (w.setCell p u) none:=
 ⟨h.os,h.tape,h.output,Nat.le_trans h.size (by simp[World.setCell]),λk hk hn=>(Below.heap_setCell w p u k (by omega)).trans (h.block k hk hn)⟩
theorem ya {id:Nat} {Q:Exit→Act→World→Prop} {a:Act} {l:List Oper} (hm:P.follows .mixedOrders=true) (hB:Region.lexB .any l.toArray=true)
 (h:wpQuiet P l.toArray (λw'=>∃x:Ext,w'=ext w x) (λa'=>∀w',(∃x:Ext,w'=ext w x)→Q .normal a' w') l a):(Code.region id l.toArray true).wp P Q a w:=
 wp_region_quiet (C:=λw'=>∃x:Ext,w'=ext w x) hm hB ⟨⟨w.drawn+1,#[]⟩,by simp only[ext,Array.append_empty]⟩ (by simpa using h)
theorem yw {f:FuncId} {args:Array Value} {x:Ext} {v:Value}
 (h:Calls P f args (ext w x) λe w'=>e = .returned v∧(ext w x).grownBy w' none):Calls P f args (ext w x) λe w''=>e = .returned v∧∃y:Ext,w''=ext w y:=
 h.mono λ_ _ ⟨he,hg⟩=>⟨he,zgr (zh (ux w x) hg)⟩
end Go.Sf
namespace Go.Sf
open Go.RowKit Go.Lib
theorem zla (k:Nat):Builtin.zeroCells (Value.int .u8 0).cells k=(List.replicate k (Value.int .u8 0)).toArray:=by
 apply Array.ext
 ·simp[Builtin.zeroCells,Value.cells]
 ·intro j h1 h2
  simp[Builtin.zeroCells,Value.cells,Nat.mod_one]
theorem Jh {P:Program} (w:World) (base:Nat) (t tn ty e:TypeId) (i:TypeInfo) (kn kq:IntKind) (ht:P.underlying t=some (.slice e)) (htn:P.underlying tn=some (.int kn)) (hi:P.info? e=some i) (hz:i.zero=some (.int .u8 0)) (hsize:i.size=1) (hby:i.bytes=1)
 (v:Value) (n:Nat) (xs:List Value) (hown:w.ownsRow base e 1 v n xs) (k:Nat) (h0:0<k) (hk:n+k≤1000000000) (hbase:base≤w.heap.size) :
  ∃g cap w',(Builtin.append_ #[t,tn] ty #[v,.int kq k]).run P w = .ok (.slice (some ⟨g,0,none⟩) (n+k) cap) w'∧w'.ownsRow base e 1 (.slice (some ⟨g,0,none⟩) (n+k) cap) (n+k) (xs++List.replicate k (.int .u8 0))∧w.grownBy w' v.ownBlock∧(v.ownBlock=some g∨g=w.heap.size):=by
 have hlx:xs.length=n:=by simpa using hown.1
 have hlen:(xs++List.replicate k (Value.int .u8 0)).length=(n+k)*1:=by simp[hlx]
 have grown:∀(old:Nat),old<n+k→∀(row:Option Nat),
   (w.drew.alloc (.cells (xs.toArray++Builtin.zeroCells (Value.int .u8 0).cells k++Builtin.zeroCells (Value.int .u8 0).cells (grownCap w (n+k) old e-(n+k))) e)).ownsRow base e 1
    (.slice (some ⟨w.heap.size,0,none⟩) (n+k) (grownCap w (n+k) old e)) (n+k) (xs++List.replicate k (.int .u8 0))∧
   w.grownBy (w.drew.alloc (.cells (xs.toArray++Builtin.zeroCells (Value.int .u8 0).cells k++Builtin.zeroCells (Value.int .u8 0).cells (grownCap w (n+k) old e-(n+k))) e)) row:=by
  intro old ho row;have hge:=grownCap_ge w (n+k) old e;have hcm:grownCap w (n+k) old e≤maxLen:=grownCap_le_maxLen w (n+k) old e (by unfold maxLen;omega)
  refine⟨⟨hlen,.inr ⟨w.heap.size,_,_,rfl,hbase,heap_alloc_new w.drew _,hge,hcm,?_,?_⟩⟩,⟨rfl,rfl,rfl,by simp,λq hq _=>(ze w.drew _ none).block q hq (by simp)⟩⟩
  ·simp only[Array.size_append,List.size_toArray,size_zeroCells,hlx]
   simp[Value.cells];omega
  ·rw[zla,zla]
   simp only[Array.toList_append,List.append_assoc];rw[←List.append_assoc,←hlen]
   exact List.take_left
 rcases hown.2 with ⟨rfl,rfl⟩|⟨g,cap,cur,rfl,hbg,hg,hnc,hcm,hcs,htake⟩
 ·have hx:xs = []:=List.eq_nil_of_length_eq_zero hlx
  subst hx;have hr:=run_append_nil_zeros (P:=P) w t tn ty e i (.int .u8 0) kq kn ht htn hi hz k h0 (by omega) (by omega) (by rw[hby];omega)
  have hgr:=grown 0 (by omega) (Value.ownBlock (.slice none 0 0))
  simp only[Nat.zero_add,List.nil_append,Array.empty_append] at hgr ⊢
  exact⟨_,_,_,hr,hgr.1,hgr.2,Or.inr rfl⟩
 ·by_cases hroom:n+k≤cap
  ·have hw:IntKind.i64.wrap (k:Int)=k:=by rw[IntKind.wrap_i64];omega
   have h48i:¬(281474976710656<(k:Int)*(i.bytes:Int)):=by rw[hby];omega
   have hneg:¬((k:Int)<0):=by omega
   have hk0:k≠0:=by omega
   have hcs':cur.size=cap:=by simpa using hcs
   have hst:=run_storeCells_at P g n e (List.replicate k (Value.int .u8 0)) 0 cur w hg (by simp;omega) (λu hu=>by rw[List.eq_of_mem_replicate hu];rfl)
   simp only[Nat.add_zero] at hst;refine⟨g,cap,w.setRow g (cur.toList.take n++List.replicate k (Value.int .u8 0)++cur.toList.drop (n+(List.replicate k (Value.int .u8 0)).length)).toArray,?_,⟨hlen,.inr ⟨g,cap,_,rfl,hbg,setRow_heap w g cur _ e _ hg,hroom,hcm,?_,?_⟩⟩,⟨rfl,rfl,rfl,by simp,λq _ hq=>setRow_other w g q _ (λe=>hq (by simp[Value.ownBlock,e]))⟩,Or.inl rfl⟩
   ·simp[Builtin.append_,run_underlying ht,run_underlying htn,sizeOf,typeInfo,zeroValue,hi,hz,hsize,asInt,asIntOf,hw,hneg,h48i,hk0,hroom,zla,Addr.add_lit,hst]
   ·simp only[List.size_toArray,List.length_append,List.length_take,List.length_drop,Array.length_toList,List.length_replicate]
    omega
   ·have h1:cur.toList.take n=xs:=by simpa using htake
    rw[h1,←hlen]
    exact List.take_left
  ·have holds:∀j u,xs[j]? = some u→w.cell? ((⟨g,0,none⟩:Addr).add j)=some u:=hown.cells (g:=g) rfl
   have hf:=run_firstCells_some (P:=P) w.drew i.size n ⟨g,0,none⟩ n cap xs (by rw[hsize];simpa using hlx) (λj u hu=>holds j u hu)
   have hr:=run_append_grow_zeros (P:=P) w t tn ty e i (.int .u8 0) kq kn ht htn hi hz (some ⟨g,0,none⟩) n cap xs hf k h0 (by omega) (by omega) (by omega) (by rw[hby];omega) (growslice_fits (by omega) (by rw[hby];omega))
   have hgr:=grown cap (by omega) (Value.ownBlock (.slice (some ⟨g,0,none⟩) n cap))
   exact⟨_,_,_,hr,hgr.1,hgr.2,Or.inr rfl⟩
end Go.Sf
namespace Go.Proofs.YtbcbhlfjgobejaaGreat
open Go.RowKit
variable {l:List Int} {xs:List Value} {base cap g m n wb:Nat} {bs:Nat→Prop} {e:TypeId} {v:Value} {W W' w:World}
def be:Nat→Nat→List Int
 | 0,_=>[]
 | k+1,n=>be k (n / 256) ++ [((n%256:Nat):Int)]
theorem vc (k n:Nat):(be k n).length=k:=by
 induction k generalizing n with
 | zero=>rfl
 | succ k ih=>simp[be,ih]
theorem Jd (k n:Nat):be (k+1) n=be k (n / 256) ++ [((n%256:Nat):Int)]:=rfl
def yz (s:ByteArray):List Int:=s.data.toList.map λb=>(b.toNat:Int)
def num (l:List Int):Nat:=l.foldl (λa b=>a*256+b.toNat) 0
theorem zaj (l:List Int) (b:Int):num (l ++ [b])=num l*256+b.toNat:=by simp[num]
def BL (l:List Int):Prop:=∀b∈l,0≤b∧b<256
theorem BL.app {m:List Int} (h:BL l) (h':BL m):BL (l++m):=λb hb=>by
 rcases List.mem_append.1 hb with h1|h1
 ·exact h b h1
 ·exact h' b h1
theorem BL.take (h:BL l) (n:Nat):BL (l.take n):=λb hb=>h b (List.mem_of_mem_take hb)
theorem BL.drop (h:BL l) (n:Nat):BL (l.drop n):=λb hb=>h b (List.mem_of_mem_drop hb)
theorem Ut:∀(k n:Nat),BL (be k n)
 | 0,_=>λb hb=>by simp[be] at hb
 | k+1,n=>by
  rw[Jd];refine(Ut k _).app λb hb=>?_
  have:b=((n%256:Nat):Int):=by simpa using hb
  omega
theorem Qd:∀(k n:Nat),n<256 ^ k→num (be k n)=n
 | 0,n,h=>by
  have:n=0:=by simpa using h
  subst this;rfl
 | k+1,n,h=>by
  rw[Jd,zaj,Qd k (n / 256) (by rw[Nat.pow_succ] at h;omega)]
  simp only[Int.toNat_natCast];omega
theorem zoe:∀(n:Nat) (l:List Int),l.length=n→BL l→be n (num l)=l∧num l<256 ^ n
 | 0,l,h,_=>by
  have:l = []:=List.eq_nil_of_length_eq_zero h;subst this;exact⟨rfl,by decide⟩
 | n+1,l,h,hb=>by
  rcases List.eq_nil_or_concat l with rfl|⟨L,b,rfl⟩
  ·simp at h
  ·simp only[List.concat_eq_append] at *
   have hL:L.length=n:=by simpa using h
   obtain⟨h1,h2⟩:=zoe n L hL (λx hx=>hb x (by simp[hx]))
   obtain⟨hb0,hb1⟩:=hb b (by simp)
   rw[zaj];have e1:(num L*256+b.toNat) / 256=num L:=by omega
   have e2:(num L*256+b.toNat)%256=b.toNat:=by omega
   have e3:((b.toNat:Nat):Int)=b:=by omega
   refine⟨by rw[Jd,e1,e2,e3,h1],by rw[Nat.pow_succ];omega⟩
def ofB (l:List Int):ByteArray:=⟨(l.map λb=>UInt8.ofNat b.toNat).toArray⟩
theorem zpj (s:ByteArray):ofB (yz s)=s:=by
 obtain⟨⟨l⟩⟩:=s;have e:(λb:Int=>UInt8.ofNat b.toNat) ∘ (λb:UInt8=>(b.toNat:Int))=id:=by funext b;simp
 simp[ofB,yz,List.map_map,e]
theorem qy (h:BL l):yz (ofB l)=l:=by
 have:∀b∈l,(λb:Int=>(((UInt8.ofNat b.toNat).toNat:Nat):Int)) b=b:=λb hb=>by
  obtain⟨h0,h1⟩:=h b hb;have:(UInt8.ofNat b.toNat).toNat=b.toNat:=by
   rw[UInt8.toNat_ofNat'];omega
  simp only[this];omega
 simp only[ofB,yz,List.map_map]
 conv=>rhs;rw[←List.map_id l]
 exact List.map_congr_left this
theorem yu (l:List Int):(ofB l).size=l.length:=by simp[ofB,ByteArray.size]
theorem zc5 (s:ByteArray):BL (yz s):=λb hb=>by
 obtain⟨x,_,rfl⟩:=List.mem_map.1 hb;have:=x.toNat_lt;omega
theorem yt (s:ByteArray):(yz s).length=s.size:=by rw[yz,List.length_map];rfl
def rd (n:Nat) (l:List Int):Option (Nat × List Int):=if n≤l.length then some (num (l.take n),l.drop n) else none
def s64 (x:Nat):Int:=if x<9223372036854775808 then x else (x:Int)-18446744073709551616
open Go.RowKit Go.Sf
def zg (l:List Int):List Value:=l.map (Value.int .u8)
structure Xi (W:World) (wb base:Nat) (v:Value) (l:List Int):Prop where
 box:W.heap[wb]? = some (.cells #[v] 231 (0,0))
 row:W.ownsRow base 5 1 v l.length (zg l)
theorem Yu:(Tryz.prog.info? 5).map (λi=>(i.zero,i.size,i.bytes))=some (some (.int .u8 0),1,1):=by kernel_rfl
theorem zl2 (h:W.ownsRow base e 1 (.slice (some ⟨g,0,none⟩) n cap) n xs) (i:Nat) (hi:i<n) (u:Value) :
  (W.setCell ⟨g,i,none⟩ u).ownsRow base e 1 (.slice (some ⟨g,0,none⟩) n cap) n (xs.set i u):=by
 refine⟨by rw[List.length_set];exact h.1,?_⟩
 rcases h.2 with ⟨e1,_⟩|⟨b,c,cur,e1,h1,hb,r1,r2,r3,r4⟩
 ·cases e1
 ·cases e1
  refine .inr ⟨g,cap,cur.setIfInBounds i u,rfl,h1,?_,r1,r2,by simpa using r3,?_⟩
  ·simp[World.setCell,Array.getElem?_modify,hb]
  ·rw[Array.toList_setIfInBounds,←r4]
   rw[Nat.mul_one,List.take_set]
theorem zv (W:World) (g i:Nat) (u:Value):W.grownBy (W.setCell ⟨g,i,none⟩ u) (some g):=
 ⟨rfl,rfl,rfl,by simp[World.setCell],λk _ hk=>Below.heap_setCell _ _ _ k (λe=>hk (by rw[e]))⟩
@[go_sem] theorem as8_8 (v:Value) (w:World):(Instr.typeAssert (.iface 5 v) 20 5 true).run Tryz.prog w = .ok (.tuple #[v,.bool true]) w:=by kernel_rfl
@[go_sem] theorem as16_8 (v:Value) (w:World):(Instr.typeAssert (.iface 72 v) 20 5 true).run Tryz.prog w = .ok (.tuple #[.int .u8 0,.bool false]) w:=by kernel_rfl
@[go_sem] theorem as16_16 (v:Value) (w:World):(Instr.typeAssert (.iface 72 v) 20 72 true).run Tryz.prog w = .ok (.tuple #[v,.bool true]) w:=by kernel_rfl
@[go_sem] theorem as64_8 (v:Value) (w:World):(Instr.typeAssert (.iface 51 v) 20 5 true).run Tryz.prog w = .ok (.tuple #[.int .u8 0,.bool false]) w:=by kernel_rfl
@[go_sem] theorem as64_16 (v:Value) (w:World):(Instr.typeAssert (.iface 51 v) 20 72 true).run Tryz.prog w = .ok (.tuple #[.int .u16 0,.bool false]) w:=by kernel_rfl
@[go_sem] theorem as64_32 (v:Value) (w:World):(Instr.typeAssert (.iface 51 v) 20 172 true).run Tryz.prog w = .ok (.tuple #[.int .u32 0,.bool false]) w:=by kernel_rfl
set_option maxRecDepth 100000 in
theorem size8 (n:Int) (W:World):Calls Tryz.prog 241 #[.int .u8 n] W λe w'=>e = .returned (.int .i64 1)∧w'=W:=by
 go_enter Tryz.func241,Tryz.ntmps241
 go_wp2
 go_ret
 exact⟨rfl,rfl⟩
set_option maxRecDepth 100000 in
theorem zk2 (n:Int) (W:World):Calls Tryz.prog 247 #[.int .u16 n] W λe w'=>e = .returned (.int .i64 2)∧w'=W:=by
 go_enter Tryz.func247,Tryz.ntmps247
 go_wp2
 go_ret
 exact⟨rfl,rfl⟩
set_option maxRecDepth 100000 in
theorem zk3 (n:Int) (W:World):Calls Tryz.prog 236 #[.int .u64 n] W λe w'=>e = .returned (.int .i64 8)∧w'=W:=by
 go_enter Tryz.func236,Tryz.ntmps236
 go_wp2
 go_ret
 exact⟨rfl,rfl⟩
theorem Uh {P:Program} {ops:Array Oper} {o:Oper} {a:Act} {K:Act→World→Prop} {Q:Exit→Act→World→Prop} {E:Prop} (hg:o.guard=none) (s x:Operand) (t tn e:TypeId) (hop:o.op=Op.call { callee:=Callee.builtin Builtin.append,args:=#[s,x],argTypes:=#[t,tn] })
 (i:TypeInfo) (kn kq:IntKind) (ht:P.underlying t=some (.slice e)) (htn:P.underlying tn=some (.int kn)) (hi:P.info? e=some i) (hz:i.zero=some (.int .u8 0)) (hsize:i.size=1) (hby:i.bytes=1)
 (base:Nat) (v:Value) (n:Nat) (xs:List Value) (hs:a.eval s=v) (hown:w.ownsRow base e 1 v n xs) (k:Nat) (hx:a.eval x = .int kq k) (h0:0<k) (hk:n+k≤1000000000) (hbase:base≤w.heap.size)
 (h:∀g cap w',w'.ownsRow base e 1 (.slice (some ⟨g,0,none⟩) (n+k) cap) (n+k) (xs++List.replicate k (.int .u8 0))→w.grownBy w' v.ownBlock→(v.ownBlock=some g∨g=w.heap.size)→K (a.put o.dst (.slice (some ⟨g,0,none⟩) (n+k) cap)) w') :
  if Region.wanted o (yielded ops a.tmps)=true then Oper.wp P o a w K Q else E:=by
 have hw:Region.wanted o (yielded ops a.tmps)=true:=by simp[Region.wanted,hg]
 rw[if_pos hw];obtain⟨g,cap,w',hr,h1,h2,h3⟩:=Jh (P:=P) w base t tn o.type e i kn kq ht htn hi hz hsize hby v n xs hown k h0 hk hbase
 exact Go.Lib.wp_append_run w s x t tn hop v (.int kq k) hs hx _ _ hr (h g cap w' h1 h2 h3)
theorem jl (h:W.ownsRow base e 1 v n xs):∃p cap,v = .slice p n cap:=by
 rcases h.2 with ⟨e1,h0⟩|⟨b,c,cur,e1,_⟩
 ·exact⟨none,0,by rw[e1,h0]⟩
 ·exact⟨_,_,e1⟩
theorem Xi.ne (h:Xi W wb base v l):v.ownBlock≠some wb:=by
 rcases h.row.2 with ⟨e1,h0⟩|⟨b,c,cur,e1,_,hb,_⟩
 ·rw[e1];simp[Value.ownBlock]
 ·rw[e1]
  intro e;have:b=wb:=by simpa[Value.ownBlock] using e
  subst this;rw[h.box] at hb;cases hb
structure zm (bs:Nat→Prop) (w w':World):Prop where
 os:w'.os=w.os
 tape:w'.tape=w.tape
 output:w'.output=w.output
 size:w.heap.size≤w'.heap.size
 block:∀k,k<w.heap.size→¬bs k→w'.heap[k]? = w.heap[k]?
theorem zm.mono {cs:Nat→Prop} {w':World} (h:zm bs w w') (hs:∀k,bs k→cs k):zm cs w w':=⟨h.os,h.tape,h.output,h.size,λk hk hn=>h.block k hk (λe=>hn (hs k e))⟩
structure Jt (W:World) (wb base g cap n:Nat) (xs:List Value):Prop where
 box:W.heap[wb]? = some (.cells #[.slice (some ⟨g,0,none⟩) n cap] 231 (0,0))
 row:W.ownsRow base 5 1 (.slice (some ⟨g,0,none⟩) n cap) n xs
 ne:g≠wb
theorem Jt.c0 (h:Jt W wb base g cap n xs):W.cell? ⟨wb,0,none⟩=some (.slice (some ⟨g,0,none⟩) n cap):=by simp[World.cell?,h.box]
theorem zc1 {w1:World} {cap2:Nat} (hwb:wb<W.heap.size) (hne:v.ownBlock≠some wb) (hx:w1.heap[wb]? = some (.cells #[v] 231 (0,0)))
 (ho:w1.ownsRow base 5 1 (.slice (some ⟨g,0,none⟩) m cap2) m xs) (hg:W.drew.grownBy w1 v.ownBlock) (hat:v.ownBlock=some g∨g=W.drew.heap.size) :
  Jt (w1.setCell ⟨wb,0,none⟩ (.slice (some ⟨g,0,none⟩) m cap2)) wb base g cap2 m xs∧zm (λq=>q=wb∨v.ownBlock=some q) W (w1.setCell ⟨wb,0,none⟩ (.slice (some ⟨g,0,none⟩) m cap2))∧(v.ownBlock=some g∨W.heap.size≤g):=by
 have hgw:g≠wb:=by
  intro e;subst e
  rcases ho.2 with ⟨e1,_⟩|⟨b,c,cur,e1,_,hb,_⟩
  ·cases e1
  ·cases e1;rw[hx] at hb;cases hb
 have hs:=zv w1 wb 0 (.slice (some ⟨g,0,none⟩) m cap2);refine⟨⟨by simp[World.setCell,Array.getElem?_modify,hx],ho.kept hs (by right;simp[Value.ownBlock,hgw]),hgw⟩,⟨hs.os.trans hg.os,hs.tape.trans hg.tape,hs.output.trans hg.output,Nat.le_trans hg.size hs.size,λq hq hn=>?_⟩,?_⟩
 ·exact(hs.block q (Nat.lt_of_lt_of_le hq hg.size) (λe=>hn (Or.inl (by cases e;rfl)))).trans (hg.block q hq (λe=>hn (Or.inr e.symm)))
 ·rcases hat with h|h
  ·exact Or.inl h
  ·right;rw[h];exact Nat.le_refl _
theorem zl4 (A:List Value) (b:Value) (R:List Value) (x:Value):(A++b :: R).set A.length x=A++x :: R:=by
 induction A with
 | nil=>rfl
 | cons a A ih=>simp[ih]
theorem Jt.step {tail:List Int} (h:Jt W wb base g cap n (zg l++List.replicate (m+1) (.int .u8 0)++zg tail)) (hn:l.length+m<n) (x:Int) :
  Jt (W.setCell ⟨g,l.length+m,none⟩ (.int .u8 x)) wb base g cap n (zg l++List.replicate m (.int .u8 0)++zg (x :: tail)):=by
 refine⟨?_,?_,h.ne⟩
 ·have hs:=zv W g (l.length+m) (.int .u8 x)
  exact(hs.block wb (Array.getElem?_eq_some_iff.1 h.box).1 (λe=>h.ne (by cases e;rfl))).trans h.box
 ·have hr:=zl2 h.row (l.length+m) hn (.int .u8 x)
  have e1:zg l++List.replicate (m+1) (Value.int .u8 0)++zg tail=(zg l++List.replicate m (Value.int .u8 0))++Value.int .u8 0 :: zg tail:=by
   rw[List.replicate_succ'];simp
  have e2:(zg l++List.replicate m (Value.int .u8 0)).length=l.length+m:=by simp[zg]
  rw[e1,←e2,zl4] at hr;rw[e2] at hr
  exact hr
theorem zm.set {i:Nat} (h:zm bs W W') (u:Value) (hg:bs g):zm bs W (W'.setCell ⟨g,i,none⟩ u):=by
 have hs:=zv W' g i u
 exact⟨hs.os.trans h.os,hs.tape.trans h.tape,hs.output.trans h.output,Nat.le_trans h.size hs.size,λk hk hn=>(hs.block k (Nat.lt_of_lt_of_le hk h.size) (λe=>hn (by cases e;exact hg))).trans (h.block k hk hn)⟩
theorem zm.old {o:Option Nat} (h:zm (λq=>q=wb∨o=some q∨W.heap.size≤q) W W'):zm (λq=>q=wb∨o=some q) W W':=
 ⟨h.os,h.tape,h.output,h.size,λk hk hn=>h.block k hk (by rintro(e|e|e);exact hn (Or.inl e);exact hn (Or.inr e);omega)⟩
set_option maxRecDepth 100000 in
theorem put8 (h:Xi W wb base v l) (hb:base≤wb) (hl:l.length≤100000000) (N:Nat) (hN:N<256 ^ 1):Calls Tryz.prog 206 #[.pointer (some ⟨wb,0,none⟩),.int .u8 N] W λe w'=>e = .returned (.tuple #[])∧∃v',Xi w' wb base v' (l++be 1 N)∧zm (λk=>k=wb∨v.ownBlock=some k) W w'∧(v.ownBlock=v'.ownBlock∨∀g,v'.ownBlock=some g→W.heap.size≤g):=by
 obtain⟨i0,hi,hz0,hz1,hz2⟩:=info_parts Yu;obtain⟨p,cap,rfl⟩:=jl h.row;have c0:W.cell? ⟨wb,0,none⟩=some (.slice p l.length cap):=by simp[World.cell?,h.box]
 have f0:W.frozen? ⟨wb,0,none⟩=false:=by simp[World.frozen?,h.box]
 have hwb:wb<W.heap.size:=(Array.getElem?_eq_some_iff.1 h.box).1;have H:=zd h;clear h
 go_enter Tryz.func206,Tryz.ntmps206
 go_upto_region 2 with fail
 go_cut [] (λwx=>∃g cap2,Jt wx wb base g cap2 (l.length+1) (zg l++List.replicate 1 (.int .u8 0))∧zm (λq=>q=wb∨Value.ownBlock (.slice p l.length cap)=some q) W wx∧(Value.ownBlock (.slice p l.length cap)=some g∨W.heap.size≤g))
 case first=>
  go_region_law (first
   | (go_simp;go_at_call 241;refine(size8 _ _).mono ?_;rintro e w3 ⟨rfl,rfl⟩)
   | (refine Uh rfl _ _ 32 3 5 rfl i0 .i64 .i64 Tryz.underlying32 Tryz.underlying3 hi hz0 hz1 hz2 base _ l.length (zg l) rfl H.out.row 1 rfl (by omega) (by omega) (by show base≤W.heap.size;omega) ?_;intro g cap2 w1 ho hg hat;have hx1:w1.heap[wb]? = some (.cells #[.slice p l.length cap] 231 (0,0)):=(hg.block wb hwb (λe=>H.out.ne e.symm)).trans H.out.box;have d0:w1.cell? ⟨wb,0,none⟩=some (.slice p l.length cap):=(by simp[World.cell?,hx1]);have y0:w1.frozen? ⟨wb,0,none⟩=false:=(by simp[World.frozen?,hx1]);have HO:=zd ho;have HGR:=zd hg;have HAT:=zd hat;have HX:=zd hx1;clear ho hg hat hx1))
  all_goals
   go_wp2_with fail
   go_meet
   exact⟨g,cap2,zc1 hwb H.out.ne HX.out HO.out HGR.out HAT.out⟩
 case rest=>
  obtain⟨g,cap2,hp,ht,hat⟩:=hcut;have HTN:=zd ht;have HAT:=zd hat;have d0:=hp.c0;clear ht hat c0 f0;have hlen:l.length+1≤1000000000:=by omega
  go_wp2
  go_loopw [1,5] (λnv i wr=>∃(m nc:Nat) (tail:List Int),m≤1∧nv = .int .u8 nc∧nc<256 ^ 1∧i = .int .i64 ((l.length:Int)+m-1)∧be 1 N=be m nc++tail∧tail.length+m=1∧Jt wr wb base g cap2 (l.length+1) (zg l++List.replicate m (.int .u8 0)++zg tail)∧zm (λq=>q=wb∨Value.ownBlock (.slice p l.length cap)=some q∨W.heap.size≤q) W wr) (λ_ i _=>(intOf i+1-(l.length:Int)).toNat)
  case atStart=>exact⟨1,N,[],by omega,rfl,hN,by congr 1 <;> omega,by simp,by simp,by simpa[zg] using hp,HTN.out.mono (λq h=>by rcases h with h|h;exact Or.inl h;exact Or.inr (Or.inl h))⟩
  case round=>
   obtain⟨m,nc,tail,hm,rfl,hnc,rfl,hbe,htl,hp,ht⟩:=hrel;have e0:=hp.c0;have HP:=zd hp;have HT:=zd ht;clear hp ht d0
   cases m with
   | zero=>
    go_wp2
    first|go_end0|refine bodyPost_ret (results_none rfl _ _ _) rfl ?_
    have hbt:be 1 N=tail:=by simpa[be] using hbe
    have hln:(l++be 1 N).length=l.length+1:=by simp[vc]
    refine⟨rfl,_,⟨HP.out.box,?_⟩,HT.out.old,?_⟩
    ·rw[hln,hbt]
     have:=HP.out.row;simpa[zg] using this
    ·rcases HAT.out with h|h
     ·exact Or.inl h
     ·exact Or.inr (λq hq=>by simp[Value.ownBlock] at hq;omega)
   | succ m=>
    have hsel:=HP.out.row;obtain⟨cell0,hz⟩:∃u,wr.cell? ⟨g,l.length+m,none⟩=some u:=by
     rcases hsel.2 with ⟨e1,_⟩|⟨b,c,cur,e1,_,hb,r1,r2,r3,r4⟩
     ·cases e1
     ·cases e1
      refine⟨cur[l.length+m]'(by omega),?_⟩
      simp[World.cell?,hb]
    have hfz:wr.frozen? ⟨g,l.length+m,none⟩=false:=by
     rcases hsel.2 with ⟨e1,_⟩|⟨b,c,cur,e1,_,hb,r1,r2,r3,r4⟩
     ·cases e1
     ·cases e1
      simp[World.frozen?,hb]
    clear hsel;go_wp2
    go_roundw
    case rel=>
     refine⟨m,nc / 256,((nc%256:Nat):Int) :: tail,by omega,by simp,Nat.lt_of_le_of_lt (Nat.div_le_self _ _) hnc,by congr 1;omega,by rw[hbe,Jd];simp,by simp only[List.length_cons];omega,?_,HT.out.set _ (by rcases HAT.out with h|h;exact Or.inr (Or.inl h);exact Or.inr (Or.inr h))⟩
     have hnm:nc%256=nc:=Nat.mod_eq_of_lt (by omega)
     rw[hnm]
     exact HP.out.step (by omega) _
    case measure=>simp[intOf];omega
set_option maxRecDepth 100000 in
theorem put16 (h:Xi W wb base v l) (hb:base≤wb) (hl:l.length≤100000000) (N:Nat) (hN:N<256 ^ 2):Calls Tryz.prog 218 #[.pointer (some ⟨wb,0,none⟩),.int .u16 N] W λe w'=>e = .returned (.tuple #[])∧∃v',Xi w' wb base v' (l++be 2 N)∧zm (λk=>k=wb∨v.ownBlock=some k) W w'∧(v.ownBlock=v'.ownBlock∨∀g,v'.ownBlock=some g→W.heap.size≤g):=by
 obtain⟨i0,hi,hz0,hz1,hz2⟩:=info_parts Yu;obtain⟨p,cap,rfl⟩:=jl h.row;have c0:W.cell? ⟨wb,0,none⟩=some (.slice p l.length cap):=by simp[World.cell?,h.box]
 have f0:W.frozen? ⟨wb,0,none⟩=false:=by simp[World.frozen?,h.box]
 have hwb:wb<W.heap.size:=(Array.getElem?_eq_some_iff.1 h.box).1;have H:=zd h;clear h
 go_enter Tryz.func218,Tryz.ntmps218
 go_upto_region 2 with fail
 go_cut [] (λwx=>∃g cap2,Jt wx wb base g cap2 (l.length+2) (zg l++List.replicate 2 (.int .u8 0))∧zm (λq=>q=wb∨Value.ownBlock (.slice p l.length cap)=some q) W wx∧(Value.ownBlock (.slice p l.length cap)=some g∨W.heap.size≤g))
 case first=>
  go_region_law (first
   | (go_simp;go_at_call 247;refine(zk2 _ _).mono ?_;rintro e w3 ⟨rfl,rfl⟩)
   | (refine Uh rfl _ _ 32 3 5 rfl i0 .i64 .i64 Tryz.underlying32 Tryz.underlying3 hi hz0 hz1 hz2 base _ l.length (zg l) rfl H.out.row 2 rfl (by omega) (by omega) (by show base≤W.heap.size;omega) ?_;intro g cap2 w1 ho hg hat;have hx1:w1.heap[wb]? = some (.cells #[.slice p l.length cap] 231 (0,0)):=(hg.block wb hwb (λe=>H.out.ne e.symm)).trans H.out.box;have d0:w1.cell? ⟨wb,0,none⟩=some (.slice p l.length cap):=(by simp[World.cell?,hx1]);have y0:w1.frozen? ⟨wb,0,none⟩=false:=(by simp[World.frozen?,hx1]);have HO:=zd ho;have HGR:=zd hg;have HAT:=zd hat;have HX:=zd hx1;clear ho hg hat hx1))
  all_goals
   go_wp2_with fail
   go_meet
   exact⟨g,cap2,zc1 hwb H.out.ne HX.out HO.out HGR.out HAT.out⟩
 case rest=>
  obtain⟨g,cap2,hp,ht,hat⟩:=hcut;have HTN:=zd ht;have HAT:=zd hat;have d0:=hp.c0;clear ht hat c0 f0;have hlen:l.length+2≤1000000000:=by omega
  go_wp2
  go_loopw [1,5] (λnv i wr=>∃(m nc:Nat) (tail:List Int),m≤2∧nv = .int .u16 nc∧nc<256 ^ 2∧i = .int .i64 ((l.length:Int)+m-1)∧be 2 N=be m nc++tail∧tail.length+m=2∧Jt wr wb base g cap2 (l.length+2) (zg l++List.replicate m (.int .u8 0)++zg tail)∧zm (λq=>q=wb∨Value.ownBlock (.slice p l.length cap)=some q∨W.heap.size≤q) W wr) (λ_ i _=>(intOf i+1-(l.length:Int)).toNat)
  case atStart=>exact⟨2,N,[],by omega,rfl,hN,by congr 1 <;> omega,by simp,by simp,by simpa[zg] using hp,HTN.out.mono (λq h=>by rcases h with h|h;exact Or.inl h;exact Or.inr (Or.inl h))⟩
  case round=>
   obtain⟨m,nc,tail,hm,rfl,hnc,rfl,hbe,htl,hp,ht⟩:=hrel;have e0:=hp.c0;have HP:=zd hp;have HT:=zd ht;clear hp ht d0
   cases m with
   | zero=>
    go_wp2
    first|go_end0|refine bodyPost_ret (results_none rfl _ _ _) rfl ?_
    have hbt:be 2 N=tail:=by simpa[be] using hbe
    have hln:(l++be 2 N).length=l.length+2:=by simp[vc]
    refine⟨rfl,_,⟨HP.out.box,?_⟩,HT.out.old,?_⟩
    ·rw[hln,hbt]
     have:=HP.out.row;simpa[zg] using this
    ·rcases HAT.out with h|h
     ·exact Or.inl h
     ·exact Or.inr (λq hq=>by simp[Value.ownBlock] at hq;omega)
   | succ m=>
    have hsel:=HP.out.row;obtain⟨cell0,hz⟩:∃u,wr.cell? ⟨g,l.length+m,none⟩=some u:=by
     rcases hsel.2 with ⟨e1,_⟩|⟨b,c,cur,e1,_,hb,r1,r2,r3,r4⟩
     ·cases e1
     ·cases e1
      refine⟨cur[l.length+m]'(by omega),?_⟩
      simp[World.cell?,hb]
    have hfz:wr.frozen? ⟨g,l.length+m,none⟩=false:=by
     rcases hsel.2 with ⟨e1,_⟩|⟨b,c,cur,e1,_,hb,r1,r2,r3,r4⟩
     ·cases e1
     ·cases e1
      simp[World.frozen?,hb]
    clear hsel;go_wp2
    go_roundw
    case rel=>
     refine⟨m,nc / 256,((nc%256:Nat):Int) :: tail,by omega,by simp,Nat.lt_of_le_of_lt (Nat.div_le_self _ _) hnc,by congr 1;omega,by rw[hbe,Jd];simp,by simp only[List.length_cons];omega,?_,HT.out.set _ (by rcases HAT.out with h|h;exact Or.inr (Or.inl h);exact Or.inr (Or.inr h))⟩
     have hnm:((nc%256:Nat):Int)=(nc:Int)%256:=rfl;rw[hnm]
     exact HP.out.step (by omega) _
    case measure=>simp[intOf];omega
set_option maxRecDepth 100000 in
theorem put64 (h:Xi W wb base v l) (hb:base≤wb) (hl:l.length≤100000000) (N:Nat) (hN:N<256 ^ 8):Calls Tryz.prog 192 #[.pointer (some ⟨wb,0,none⟩),.int .u64 N] W λe w'=>e = .returned (.tuple #[])∧∃v',Xi w' wb base v' (l++be 8 N)∧zm (λk=>k=wb∨v.ownBlock=some k) W w'∧(v.ownBlock=v'.ownBlock∨∀g,v'.ownBlock=some g→W.heap.size≤g):=by
 obtain⟨i0,hi,hz0,hz1,hz2⟩:=info_parts Yu;obtain⟨p,cap,rfl⟩:=jl h.row;have c0:W.cell? ⟨wb,0,none⟩=some (.slice p l.length cap):=by simp[World.cell?,h.box]
 have f0:W.frozen? ⟨wb,0,none⟩=false:=by simp[World.frozen?,h.box]
 have hwb:wb<W.heap.size:=(Array.getElem?_eq_some_iff.1 h.box).1;have H:=zd h;clear h
 go_enter Tryz.func192,Tryz.ntmps192
 go_upto_region 2 with fail
 go_cut [] (λwx=>∃g cap2,Jt wx wb base g cap2 (l.length+8) (zg l++List.replicate 8 (.int .u8 0))∧zm (λq=>q=wb∨Value.ownBlock (.slice p l.length cap)=some q) W wx∧(Value.ownBlock (.slice p l.length cap)=some g∨W.heap.size≤g))
 case first=>
  go_region_law (first
   | (go_simp;go_at_call 236;refine(zk3 _ _).mono ?_;rintro e w3 ⟨rfl,rfl⟩)
   | (refine Uh rfl _ _ 32 3 5 rfl i0 .i64 .i64 Tryz.underlying32 Tryz.underlying3 hi hz0 hz1 hz2 base _ l.length (zg l) rfl H.out.row 8 rfl (by omega) (by omega) (by show base≤W.heap.size;omega) ?_;intro g cap2 w1 ho hg hat;have hx1:w1.heap[wb]? = some (.cells #[.slice p l.length cap] 231 (0,0)):=(hg.block wb hwb (λe=>H.out.ne e.symm)).trans H.out.box;have d0:w1.cell? ⟨wb,0,none⟩=some (.slice p l.length cap):=(by simp[World.cell?,hx1]);have y0:w1.frozen? ⟨wb,0,none⟩=false:=(by simp[World.frozen?,hx1]);have HO:=zd ho;have HGR:=zd hg;have HAT:=zd hat;have HX:=zd hx1;clear ho hg hat hx1))
  all_goals
   go_wp2_with fail
   go_meet
   exact⟨g,cap2,zc1 hwb H.out.ne HX.out HO.out HGR.out HAT.out⟩
 case rest=>
  obtain⟨g,cap2,hp,ht,hat⟩:=hcut;have HTN:=zd ht;have HAT:=zd hat;have d0:=hp.c0;clear ht hat c0 f0;have hlen:l.length+8≤1000000000:=by omega
  go_wp2
  go_loopw [1,5] (λnv i wr=>∃(m nc:Nat) (tail:List Int),m≤8∧nv = .int .u64 nc∧nc<256 ^ 8∧i = .int .i64 ((l.length:Int)+m-1)∧be 8 N=be m nc++tail∧tail.length+m=8∧Jt wr wb base g cap2 (l.length+8) (zg l++List.replicate m (.int .u8 0)++zg tail)∧zm (λq=>q=wb∨Value.ownBlock (.slice p l.length cap)=some q∨W.heap.size≤q) W wr) (λ_ i _=>(intOf i+1-(l.length:Int)).toNat)
  case atStart=>exact⟨8,N,[],by omega,rfl,hN,by congr 1 <;> omega,by simp,by simp,by simpa[zg] using hp,HTN.out.mono (λq h=>by rcases h with h|h;exact Or.inl h;exact Or.inr (Or.inl h))⟩
  case round=>
   obtain⟨m,nc,tail,hm,rfl,hnc,rfl,hbe,htl,hp,ht⟩:=hrel;have e0:=hp.c0;have HP:=zd hp;have HT:=zd ht;clear hp ht d0
   cases m with
   | zero=>
    go_wp2
    first|go_end0|refine bodyPost_ret (results_none rfl _ _ _) rfl ?_
    have hbt:be 8 N=tail:=by simpa[be] using hbe
    have hln:(l++be 8 N).length=l.length+8:=by simp[vc]
    refine⟨rfl,_,⟨HP.out.box,?_⟩,HT.out.old,?_⟩
    ·rw[hln,hbt]
     have:=HP.out.row;simpa[zg] using this
    ·rcases HAT.out with h|h
     ·exact Or.inl h
     ·exact Or.inr (λq hq=>by simp[Value.ownBlock] at hq;omega)
   | succ m=>
    have hsel:=HP.out.row;obtain⟨cell0,hz⟩:∃u,wr.cell? ⟨g,l.length+m,none⟩=some u:=by
     rcases hsel.2 with ⟨e1,_⟩|⟨b,c,cur,e1,_,hb,r1,r2,r3,r4⟩
     ·cases e1
     ·cases e1
      refine⟨cur[l.length+m]'(by omega),?_⟩
      simp[World.cell?,hb]
    have hfz:wr.frozen? ⟨g,l.length+m,none⟩=false:=by
     rcases hsel.2 with ⟨e1,_⟩|⟨b,c,cur,e1,_,hb,r1,r2,r3,r4⟩
     ·cases e1
     ·cases e1
      simp[World.frozen?,hb]
    clear hsel;go_wp2
    go_roundw
    case rel=>
     refine⟨m,nc / 256,((nc%256:Nat):Int) :: tail,by omega,by simp,Nat.lt_of_le_of_lt (Nat.div_le_self _ _) hnc,by congr 1;omega,by rw[hbe,Jd];simp,by simp only[List.length_cons];omega,?_,HT.out.set _ (by rcases HAT.out with h|h;exact Or.inr (Or.inl h);exact Or.inr (Or.inr h))⟩
     have hnm:((nc%256:Nat):Int)=(nc:Int)%256:=rfl;rw[hnm]
     exact HP.out.step (by omega) _
    case measure=>simp[intOf];omega
end Go.Proofs.YtbcbhlfjgobejaaGreat
