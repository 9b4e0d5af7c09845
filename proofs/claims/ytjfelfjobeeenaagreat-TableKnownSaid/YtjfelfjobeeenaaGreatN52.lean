/- TableKnown: the walk. Conditions: none, or as the theorems say. -/
import Derived.Test.YtjfelfjobeeenaaGreatN33
import Derived.Test.YtjfelfjobeeenaaGreatN34
import Derived.Test.YtjfelfjobeeenaaGreatN36
import Derived.Test.YtjfelfjobeeenaaGreatN38
import Derived.Test.YtjfelfjobeeenaaGreatN51
import Derived.Deep.DeepCutAuto
import Derived.Outline
import Derived.Test.YtjfelfjobeeenaaGreatRows
import Derived.WalkKit
import Derived.ProofKit
import Derived.OpenShut
namespace Go.Proofs.YtjfelfjobeeenaaGreat
set_option maxHeartbeats 200000000
set_option linter.unusedVariables false
set_option linter.unusedSimpArgs false
open Go.RowKit Go.Sf Go.Shelf
theorem zq7 (W:World):Calls Tryz.prog 41 #[.slice none 0 0] W fun e w'=>e = .returned (.tuple #[.pointer none,.int .i64 2])∧W.grownBy w' none:=by
 have h0:zd5 []=none:=rfl;refine(zgw (l0:=[]) ⟨none,0,rfl,Nat.le_refl _,by omega,Or.inl rfl⟩ (fun b hb=>by simp at hb) (fun L h=>by rw[h0] at h;cases h)).mono ?_
 rintro e w' ⟨hg,⟨tb',T,rfl,h1,h2,h3,h4⟩|⟨he,_⟩⟩
 ·rw[h0] at h1;cases h1
 ·exact⟨he,hg⟩
theorem zri (w:World):(convert 25 9 (.slice (some ⟨w.heap.size,0,none⟩) 65 65)).run Tryz.prog (w.alloc (.cells (madeCells #[.int .u8 0] 65) 5)) = .ok (.string (ofB (List.replicate 65 0))) (w.alloc (.cells (madeCells #[.int .u8 0] 65) 5)):=
 ys (B:=w.heap.size+1) ⟨some ⟨w.heap.size,0,none⟩,65,rfl,by simp,by omega,Or.inr ⟨_,rfl,Nat.lt_succ_self _,fun j u hu=>by
  have e:(w.alloc (.cells (madeCells #[.int .u8 0] 65) 5)).heap[w.heap.size]? = _:=heap_alloc_new w _;rw[Addr.add_lit,Nat.zero_add];simp only[World.cell?,e];have hb:zu (List.replicate 65 0)=(madeCells #[.int .u8 0] 65).toList:=by rw[toList_madeCells_one];simp[zu]
  rw[hb] at hu;simpa using hu⟩⟩
def litL (a b:ByteArray):List Cmd:=[⟨0,0,0,0,0,0,⟨#[]⟩,0⟩,⟨1,0,0,0,0,0,⟨#[]⟩,0⟩,⟨8,0,0,0,0,0,⟨#[]⟩,0⟩,⟨2,254,0,4611686018427387904,0,0,⟨#[]⟩,0⟩,⟨2,255,0,0,0,0,⟨#[]⟩,0⟩,⟨2,0,0,-1,0,0,⟨#[]⟩,0⟩,⟨3,0,65535,0,4611686018427387904,0,b,0⟩,⟨3,0,0,0,0,0,a,0⟩,⟨3,0,65536,0,0,0,⟨#[]⟩,0⟩,⟨4,3,0,4,0,5,⟨#[107]⟩,0⟩,⟨5,0,0,0,0,4611686018427387905,⟨#[]⟩,0⟩,⟨6,0,0,0,-1,0,⟨#[]⟩,0⟩,⟨7,0,2,0,3,0,⟨#[]⟩,65535⟩,⟨7,0,0,0,0,0,⟨#[]⟩,65536⟩,⟨7,0,0,0,0,0,⟨#[]⟩,-1⟩,⟨1,1,0,0,0,0,⟨#[]⟩,0⟩,⟨1,0,0,0,1,0,⟨#[]⟩,0⟩,⟨2,0,1,0,0,0,⟨#[]⟩,0⟩,⟨2,0,0,0,0,0,⟨#[107]⟩,0⟩,⟨3,1,0,0,0,0,⟨#[]⟩,0⟩,⟨3,0,0,0,0,1,⟨#[]⟩,0⟩,⟨4,0,0,0,1,0,⟨#[]⟩,0⟩,⟨6,0,0,0,0,0,⟨#[]⟩,1⟩,⟨7,0,0,0,0,0,⟨#[107]⟩,0⟩,⟨1,0,0,0,0,1,⟨#[]⟩,0⟩]
def litP:List Cmd:=[⟨1,0,0,0,0,0,⟨#[]⟩,0⟩,⟨1,0,0,0,0,0,⟨#[]⟩,0⟩,⟨1,0,0,0,0,0,⟨#[]⟩,0⟩,⟨2,0,0,1,0,0,⟨#[]⟩,0⟩,⟨2,1,0,2,0,0,⟨#[]⟩,0⟩,⟨2,2,0,3,0,0,⟨#[]⟩,0⟩,⟨2,2,0,9,0,0,⟨#[]⟩,0⟩,⟨3,0,1,0,1,0,⟨#[97]⟩,0⟩,⟨3,0,2,0,5,0,⟨#[97]⟩,0⟩,⟨4,0,0,1,0,2,⟨#[97]⟩,0⟩,⟨4,1,0,2,0,2,⟨#[97]⟩,0⟩,⟨4,0,0,1,0,1,⟨#[97]⟩,0⟩,⟨5,2,0,3,0,1,⟨#[97]⟩,0⟩,⟨4,2,0,3,0,1,⟨#[97]⟩,0⟩,⟨3,0,1,0,2,0,⟨#[98]⟩,0⟩,⟨5,0,0,1,0,3,⟨#[98]⟩,0⟩,⟨5,1,0,2,0,3,⟨#[98]⟩,0⟩,⟨4,1,0,2,0,3,⟨#[98]⟩,0⟩,⟨3,0,3,0,1,0,⟨#[97]⟩,0⟩,⟨6,0,2,0,6,0,⟨#[97]⟩,0⟩,⟨4,0,0,1,0,4,⟨#[97]⟩,0⟩,⟨4,1,0,2,0,4,⟨#[97]⟩,0⟩,⟨3,0,3,0,2,0,⟨#[99]⟩,0⟩,⟨7,0,3,0,3,0,⟨#[]⟩,230⟩,⟨4,0,0,1,0,6,⟨#[99]⟩,0⟩,⟨3,0,4,0,1,0,⟨#[99]⟩,0⟩,⟨4,0,0,1,0,7,⟨#[99]⟩,0⟩,⟨1,0,0,0,0,0,⟨#[]⟩,0⟩,⟨2,0,0,4,0,0,⟨#[]⟩,0⟩,⟨4,0,0,1,0,7,⟨#[99]⟩,0⟩,⟨4,0,0,4,0,7,⟨#[99]⟩,0⟩,⟨4,2,0,3,0,7,⟨#[99]⟩,0⟩,⟨4,1,0,2,0,7,⟨#[99]⟩,0⟩,⟨5,1,0,2,0,7,⟨#[99]⟩,0⟩,⟨3,0,4,0,1,0,⟨#[100]⟩,0⟩]
structure zh6 (w:World) (g:Nat) (l:List Cmd):Prop where
 row:w.heap[g]? = some (.cells (l.flatMap xa).toArray 24 (0,0))
theorem zmg (w:World) (l:List Cmd) (C:Array Value) (h:C=(l.flatMap xa).toArray):zh6 (w.alloc (.cells C 24)) w.heap.size l:=⟨by rw[h];exact heap_alloc_new _ _⟩
theorem zh6.grown {w w':World} {g:Nat} {l:List Cmd} (h:zh6 w g l) (hg:w.grownBy w' none):zh6 w' g l:=⟨(hg.block g (yi h.row) (by simp)).trans h.row⟩
theorem zh6.cell {w:World} {g:Nat} {l:List Cmd} (h:zh6 w g l) (j:Nat) (hj:j<l.length) (t:Nat) (u:Value) (hu:(xa (l.getD j wkD))[t]? = some u):w.cell? ⟨g,j*8+t,none⟩=some u:=by
 have ht:t<8:=by
  rcases Nat.lt_or_ge t 8 with h|h
  ·exact h
  ·rw[List.getElem?_eq_none (by rw[Xk];exact h)] at hu;cases hu
 rw[←zgj l j t hj ht] at hu;simp only[World.cell?,h.row];simpa using hu
theorem litL_ok (a b:ByteArray) (ha:a.size≤100) (hb:b.size≤100):∀c∈litL a b,(c.kind=0∨c.kind=1∨c.kind=2∨c.kind=3∨c.kind=4∨c.kind=5∨c.kind=6∨c.kind=7∨c.kind=8)∧c.key.size≤100:=by
 have e0:(⟨#[]⟩:ByteArray).size≤100:=by decide
 have e1:(⟨#[107]⟩:ByteArray).size≤100:=by decide
 intro c hc;simp only[litL,List.mem_cons,List.not_mem_nil,or_false] at hc
 rcases hc with rfl|rfl|rfl|rfl|rfl|rfl|rfl|rfl|rfl|rfl|rfl|rfl|rfl|rfl|rfl|rfl|rfl|rfl|rfl|rfl|rfl|rfl|rfl|rfl|rfl <;> exact⟨by simp,by assumption⟩
theorem litP_ok:∀c∈litP,c.key.size≤100:=by decide
theorem zn3 (v:Int) (h:0≤v∧v<256):0≤bits BinOp.xor IntKind.u8 v 1∧bits BinOp.xor IntKind.u8 v 1<256:=by
 have hall:∀n:Fin 256,0≤bits BinOp.xor IntKind.u8 (n.val:Int) 1∧bits BinOp.xor IntKind.u8 (n.val:Int) 1<256:=by decide +kernel
 obtain⟨n,rfl⟩:=Int.eq_ofNat_of_zero_le h.1
 exact hall ⟨n,by omega⟩
theorem zs4 (w:World):uy w.heap.size w (.slice none 0 0) []:=⟨none,0,rfl,Nat.le_refl _,by omega,Or.inl rfl⟩
theorem ztc (w:World):Xg w w.heap.size (.slice none 0 0) []:=⟨none,0,rfl,Nat.zero_le _,fun c hc=>by simp at hc,Or.inl rfl⟩
theorem BL_nil:BL []:=fun b hb=>by simp at hb
def Yes (w:World) (e:Ending) (w':World):Prop:=e = .returned (.bool true)∧w.grownBy w' none
theorem zn5 (kind node zvw zvx zvy zvz code:Int) (key:ByteArray) (hk:key.size≤100) (p:Option Addr) (n c:Nat) (l:List Int) (hl:l.length=n) (hn:n≤1000) (w:World) (h:uy w.heap.size w (.slice p n c) l) (hb:BL l):Calls Tryz.prog 3 #[(.agg #[.int .u8 kind,.int .i64 node,.int .i64 zvw,.int .i64 zvx,.int .i64 zvy,.int .i64 zvz,.string key,.int .i64 code]:Value),.slice p n c] w (Yes w):=by
 subst hl
 exact zm5 kind node zvw zvx zvy zvz code key (by omega) p c l w h hb (by omega)
theorem zsu (at8:Nat) (ha:at8≤255) (v:Value) (l:List Cmd) (w:World) (h:Xg w w.heap.size v l):Calls Tryz.prog 8 #[.int .u8 3,.int .u8 2,v,.int .u8 at8,.slice none 0 0] w (Yes w):=zih 3 2 at8 (by omega) (by omega) ha v _ l [] w h (zs4 w) BL_nil
theorem zh4 (v:Value) (l:List Int) (w:World) (h:uy w.heap.size w v l) (hb:BL l):Calls Tryz.prog 8 #[.int .u8 1,.int .u8 1,.slice none 0 0,.int .u8 0,v] w (Yes w):=zih 1 1 0 (by omega) (by omega) (by omega) _ v [] l w (ztc w) h hb
theorem zps (b:Nat) (hb:b≤255) (v:Value) (l:List Cmd) (w:World) (h:Xg w w.heap.size v l):Calls Tryz.prog 7 #[.int .u8 3,.int .u8 b,v] w (Yes w):=zen 3 b (by omega) hb v l w h
theorem zpr (v:Value) (l:List Cmd) (w:World) (h:Xg w w.heap.size v l):Calls Tryz.prog 7 #[.int .u8 0,.int .u8 0,v] w (Yes w):=zen 0 0 (by omega) (by omega) v l w h
theorem zn4 (v:Value) (l:List Cmd) (w:World) (h:Xg w w.heap.size v l):Calls Tryz.prog 7 #[.int .u8 13,.int .u8 13,v] w (Yes w):=zen 13 13 (by omega) (by omega) v l w h
theorem zsv (v:Value) (l:List Cmd) (w:World) (h:Xg w w.heap.size v l):Calls Tryz.prog 6 #[.int .u8 3,.int .u8 2,v] w (Yes w):=zpf 3 2 (by omega) (by omega) v l w h
theorem zpq (w:World):Calls Tryz.prog 44 #[.int .u8 4,.int .u8 2,.string ⟨#[107]⟩,.int .u8 1] w (Yes w):=zff 4 2 1 ⟨#[107]⟩ (by omega) (by omega) (by omega) (by decide) w
theorem zpp (w:World):Calls Tryz.prog 44 #[.int .u8 0,.int .u8 0,.string ⟨#[]⟩,.int .u8 0] w (Yes w):=zff 0 0 0 ⟨#[]⟩ (by omega) (by omega) (by omega) (by decide) w
theorem zh6.cmds {w:World} {g:Nat} {l:List Cmd} (h:zh6 w g l) {m:Nat} (hm:l.length=m) (hl:m≤1000) (hk:∀c∈l,c.key.size≤100) (i:Nat) (hi:i≤m):Xg w w.heap.size (.slice (some ⟨g,i*8,none⟩) (m-i) (m-i)) (l.drop i):=by
 subst hm
 exact row_lit h.row hl (fun c hc=>Nat.le_trans (hk c hc) (by omega)) i hi
theorem zr2 {W0 W W':World} (h:W0.grownBy W none) (ho:Out (fun k=>W0.heap.size≤k) W W'):W0.grownBy W' none:=
 ⟨ho.os.trans h.os,ho.tape.trans h.tape,ho.output.trans h.output,Nat.le_trans h.size ho.size,fun k hk _=>(ho.block k (Nat.lt_of_lt_of_le hk h.size) (by omega)).trans (h.block k hk (by simp))⟩
theorem zhq {w:World} {base:Nat} {v:Value} {n:Nat} {xs:List Value} (h:w.ownsRow base 5 1 v n xs):∃p c,v = .slice p n c:=by
 rcases h with ⟨_,⟨rfl,_,rfl⟩|⟨g,c,_,rfl,_⟩⟩
 ·exact⟨_,_,rfl⟩
 ·exact⟨_,_,rfl⟩
set_option maxRecDepth 100000 in
theorem zrf (W:World):Calls Tryz.prog 9 #[] W fun e w'=>e = .returned (.bool true)∧W.grownBy w' none:=by
 have HG:=za (zd W)
 go_enter Tryz.func9,Tryz.ntmps9
 go_upto_region 3 with ((go_at_call 41;refine(zq7 _).mono ?_;rintro e w1 ⟨rfl,hg⟩;have HG:=za (ze HG.out hg);clear hg))
 generalize w1=W1 at *
 go_cut [4] (fun s wx=>s = .bool true∧W.grownBy wx none)
 case first=>as_aux_lemma=>
  have heq:∀w,(binOp .eql 77 (.agg #[.int .i64 0,.int .i64 0,.bool false,.int .i64 0]) (.agg #[.int .i64 0,.int .i64 0,.bool false,.int .i64 0])).run Tryz.prog w = .ok (.bool true) w:=fun _=>by kernel_rfl
  go_wp2_with (first
   | (go_at_call 22;refine(nil_do _).mono ?_;rintro e w1 ⟨rfl,hg⟩;have HG:=za (ze HG.out hg);clear hg)
   | (go_at_call 35;refine(zmw _).mono ?_;rintro e w1 ⟨rfl,hg⟩;have HG:=za (ze HG.out hg);clear hg)
   | (go_at_call 31;refine(zt9 _).mono ?_;rintro e w1 ⟨rfl,hg⟩;have HG:=za (ze HG.out hg);clear hg)
   | (go_at_call 23;refine(zmu _).mono ?_;rintro e w1 ⟨rfl,hg⟩;have HG:=za (ze HG.out hg);clear hg)
   | (go_at_call 32;refine(zt7 _).mono ?_;rintro e w1 ⟨rfl,hg⟩;have HG:=za (ze HG.out hg);clear hg)
   | (go_at_call 34;refine(zt8 _).mono ?_;rintro e w1 ⟨rfl,hg⟩;have HG:=za (ze HG.out hg);clear hg)
   | (go_at_call 36;refine(zo1 _).mono ?_;rintro e w1 ⟨rfl,hg⟩;have HG:=za (ze HG.out hg);clear hg)
   | (go_at_call 33;refine(zmx _).mono ?_;rintro e w1 ⟨rfl,hg⟩;have HG:=za (ze HG.out hg);clear hg)
   | (go_at_call 42;refine(zms _).mono ?_;rintro e w1 ⟨rfl,hg⟩;have HG:=za (ze HG.out hg);clear hg)
   | (go_at_call 37;refine(zmt _).mono ?_;rintro e w1 ⟨rfl,hg⟩;have HG:=za (ze HG.out hg);clear hg)
   | (go_at_call 43;refine(zmv _).mono ?_;rintro e w1 ⟨rfl,hg⟩;have HG:=za (ze HG.out hg);clear hg)
   | (go_at_call 40;refine(zrr _).mono ?_;rintro e w1 ⟨rfl,hg⟩;have HG:=za (ze HG.out hg);clear hg))
  go_meet
  exact⟨rfl,HG.out⟩
 case rest=>
 obtain⟨rfl,hg⟩:=hcut;clear HG;have HG:=za hg;clear hg;generalize wc=W2 at *;have hmk:∀w:World,(Instr.makeSlice 25 (.int .i64 65) (.int .i64 65)).run Tryz.prog w = .ok (.slice (some ⟨w.heap.size,0,none⟩) 65 65) (w.alloc (.cells (madeCells #[.int .u8 0] 65) 5)):=run_make_row' (P:=Tryz.prog) 25 5 (.int .u8 0) 1 Tryz.underlying25 Zr rfl .i64 .i64 65 (by omega) (by omega)
 have hcv:=zri;have hs65:(ofB (List.replicate 65 0)).size=65:=by decide +kernel
 generalize ofB (List.replicate 65 0)=S65 at *
 go_upto_region 5 with fail
 clear hcv hmk;have hs64:(S65.extract 1 65).size=64:=by simp[ByteArray.size_extract,hs65]
 have HOK:=za (litL_ok S65 (S65.extract 1 65) (by omega) (by omega))
 have HL25:Hid ((litL S65 (S65.extract 1 65)).length=25):=(show _=_ from rfl)
 have HG3:=za (zg HG.out (.cells (madeCells #[.int .u8 0] 65) 5));clear HG;generalize W2.alloc (.cells (madeCells #[.int .u8 0] 65) 5)=W3 at *
 go_cut [6] (fun s wx=>∃g,s = .slice (some ⟨g,0,none⟩) 25 25∧W.grownBy wx none∧zh6 wx g (litL S65 (S65.extract 1 65)))
 case first=>as_aux_lemma=>
  clear HOK HL25 hs64
  go_wp2_with (refine zdy _ rfl (litL S65 (S65.extract 1 65)) 25 rfl (by omega) (by omega) rfl (by kernel_rfl) (fun C hC=>?_);have HC:=za hC;clear hC)
  go_meet
  exact⟨_,rfl,zg HG3.out _,zmg _ _ _ HC.out⟩
 case rest=>
 obtain⟨gL,rfl,hg,hl⟩:=hcut;have HGA:=za hg;have HL:=za hl;clear hg hl HG3 hs64;generalize litL S65 (S65.extract 1 65)=L at *;generalize wc=WA at *
 go_upto_block 0 with fail
 go_cut [] (fun wx=>WA.grownBy wx none)
 case first=>as_aux_lemma=>
  go_wp2
  go_loopw [7] (fun s wr=>∃j:Nat,j≤25∧s = .int .i64 j∧WA.grownBy wr none) (fun s _=>25-(intOf s).toNat)
  case atStart=>exact⟨0,by omega,rfl,zd _⟩
  case round=>
   obtain⟨j,hj,rfl,hg0⟩:=hrel;have HA:=za hg0;clear hg0
   rcases Nat.lt_or_ge j 25 with hlt|hge
   ·have hcell:=fun W' (hg:WA.grownBy W' none) t u h=>(HL.out.grown hg).cell j (by rw[HL25.out];exact hlt) t u h
    have hki:=HOK.out (L.getD j wkD) (by simp only[List.getD_eq_getElem?_getD,List.getElem?_eq_getElem (show j<L.length by rw[HL25.out];exact hlt),Option.getD_some];exact List.getElem_mem _)
    generalize L.getD j wkD=c at *;obtain⟨kind,node,zvw,zvx,zvy,zvz,key,code⟩:=c;have HC8:Hid (∀W',WA.grownBy W' none→W'.cell? ⟨gL,j*8,none⟩=some (.int .u8 kind)∧W'.cell? ⟨gL,j*8+1,none⟩=some (.int .i64 node)∧W'.cell? ⟨gL,j*8+2,none⟩=some (.int .i64 zvw)∧W'.cell? ⟨gL,j*8+3,none⟩=some (.int .i64 zvx)∧W'.cell? ⟨gL,j*8+4,none⟩=some (.int .i64 zvy)∧W'.cell? ⟨gL,j*8+5,none⟩=some (.int .i64 zvz)∧W'.cell? ⟨gL,j*8+6,none⟩=some (.string key)∧W'.cell? ⟨gL,j*8+7,none⟩=some (.int .i64 code)):=(show ∀_,_ from fun W' hg=>⟨hcell W' hg 0 _ rfl,hcell W' hg 1 _ rfl,hcell W' hg 2 _ rfl,hcell W' hg 3 _ rfl,hcell W' hg 4 _ rfl,hcell W' hg 5 _ rfl,hcell W' hg 6 _ rfl,hcell W' hg 7 _ rfl⟩)
    have HKI:=za hki;clear hcell hki;generalize wr=W5 at *;have HG:=za (zd W5);obtain⟨c0,c1,c2,c3,c4,c5,c6,c7⟩:=HC8.out _ (ze HA.out HG.out)
    go_upto_region 10 with (first
     | (go_at_call 12;refine(Jr ⟨kind,node,zvw,zvx,zvy,zvz,key,code⟩ _).mono ?_;clear c0 c1 c2 c3 c4 c5 c6 c7;rintro e w2 ⟨rfl,hg⟩;have HG:=za (ze HG.out hg);clear hg;obtain⟨c0,c1,c2,c3,c4,c5,c6,c7⟩:=HC8.out _ (ze HA.out HG.out);simp only[zp])
     | (go_at_call 14;refine(zm7 kind node zvw zvx zvy zvz code key HKI.out.1 HKI.out.2 _).mono ?_;clear c0 c1 c2 c3 c4 c5 c6 c7;rintro e w3 ⟨v,lb,rfl,ho,hbl,hl4,hg⟩;have HG:=za (ze HG.out hg);clear hg;obtain⟨c0,c1,c2,c3,c4,c5,c6,c7⟩:=HC8.out _ (ze HA.out HG.out);obtain⟨pb,cb,rfl⟩:=zhq ho;have HB:=za (xq ho);have HBL:=za (And.intro hbl hl4);clear ho hbl hl4))
    go_upto_region 12 with (go_at_call 3;refine(zm5 kind node zvw zvx zvy zvz code key (by have:=HKI.out.2;omega) pb cb lb _ HB.out HBL.out.1 (by have:=HBL.out.2;omega)).mono ?_;clear c0 c1 c2 c3 c4 c5 c6 c7;rintro e w4 ⟨rfl,hg⟩;have HB4:=za (HB.out.later (Nat.le_refl _) hg);have HG:=za (ze HG.out hg);clear hg;obtain⟨c0,c1,c2,c3,c4,c5,c6,c7⟩:=HC8.out _ (ze HA.out HG.out))
    generalize w4=W9 at *;obtain⟨n,hn⟩:∃n,n=lb.length:=⟨_,rfl⟩;have HN:=za hn;rw[←hn];clear hn c0 c1 c2 c3 c4 c5 c6 c7
    go_upto_block 2 with fail
    go_wp2
    go_loopw [9] (fun s wx=>∃k:Nat,k≤n∧s = .int .i64 k∧W9.grownBy wx none) (fun s _=>n-(intOf s).toNat)
    case atStart=>exact⟨0,Nat.zero_le _,rfl,zd _⟩
    case round=>
     obtain⟨k,hk,rfl,hg⟩:=hrel;have HX:=za hg;clear hg;generalize wr=W10 at *
     rcases Nat.lt_or_ge k n with hkn|hkn
     ·rcases Nat.lt_or_ge n 60 with h60|h60
      ·have h60I:(n:Int)<60:=by omega
       have HBX:=za (HB4.out.later (Nat.le_refl _) HX.out);have hcv:=ys HBX.out;rw[←HN.out] at hcv;have kc:=Lib.run_convert_string_bytes (P:=Tryz.prog) W10 9 25 5 (ofB lb) (u:=.string) Tryz.underlying9 Tryz.underlying25 Tryz.underlying5;have hsz:(ofB lb).size=n:=by rw[HN.out];simp[ofB,ByteArray.size]
       have hcap:n≤cb:=by
        obtain⟨p1,c1,e1,h1,h2,-⟩:=HBX.out.ex
        injection e1 with _ _ e3
        rw[HN.out,e3];exact h1
       obtain⟨hb1,hb2⟩:=zcn W10 (ofB lb) k (by omega)
       have hv:=zav (ofB lb) _ (List.getElem_mem (by rw[zy];omega:k<(qz (ofB lb)).length))
       generalize (qz (ofB lb))[k]'_=v at *;have HCS:=za (fun z=>zll W10 (ofB lb) (by omega) k (by omega) z)
       rw[hsz] at kc;have HSZ:=za hsz;clear hsz
       go_upto_region 17 with fail
       obtain⟨hxr,hxg⟩:=HCS.out (bits BinOp.xor IntKind.u8 v 1);rw[HSZ.out] at hxr;have HV:=za (zn3 v hv);generalize bits BinOp.xor IntKind.u8 v 1=z at *;generalize (Lib.bytesWorld W10 5 (ofB lb)).setCell ⟨W10.heap.size,k,none⟩ (.int .u8 z)=W11 at *;have HW9:=za (ze HX.out hxg);have HW11:Hid (∀w',W11.grownBy w' none→WA.grownBy w' none):=(show ∀_,_ from fun w' h=>ze HA.out (ze HG.out (ze HW9.out h)))
       have HPX:Hid (∀W',W11.grownBy W' none→Calls Tryz.prog 3 #[(.agg #[.int .u8 kind,.int .i64 node,.int .i64 zvw,.int .i64 zvx,.int .i64 zvy,.int .i64 zvz,.string key,.int .i64 code]:Value),.slice (some ⟨W10.heap.size,0,none⟩) n (grownCap W10 n 0 5)] W' (Yes W')):=(show ∀_,_ from fun W' hg=>zn5 kind node zvw zvx zvy zvz code key HKI.out.2 _ n _ _ (by rw[List.length_set,zy,HSZ.out]) (by omega) W' (hxr.later (Nat.le_refl _) hg) (BL.set (zav _) k HV.out.1 HV.out.2))
       have HPB:Hid (∀W',W9.grownBy W' none→Calls Tryz.prog 3 #[(.agg #[.int .u8 kind,.int .i64 node,.int .i64 zvw,.int .i64 zvx,.int .i64 zvy,.int .i64 zvz,.string key,.int .i64 code]:Value),.slice pb k cb] W' (Yes W')):=(show ∀_,_ from fun W' hg=>zn5 kind node zvw zvx zvy zvz code key HKI.out.2 _ k _ (lb.take k) (by rw[List.length_take,←HN.out];omega) (by omega) W' ((HB4.out.later (Nat.le_refl _) hg).front (by rw[←HN.out];omega)) (HBL.out.1.take k))
       clear hxr hxg hb1 hb2 hv hcv kc;have hkcb:k≤cb:=by omega
       have hS0:(fun w':World=>W11.grownBy w' none) W11.drew:=zf (zd _)
       dsimp only at hS0;refine wp_region_held_drew (S:=fun w':World=>W11.grownBy w' none) (by kernel_rfl) hS0 (fun hHeld=>?_)
       clear hS0;refine tg 0 ?_ hHeld ?_ ?_ rfl (by kernel_rfl) rfl fun _ _ _ h=>h
       rotate_left
       ·rintro w s1;go_simp;try with_reducible rfl
       (try simp only[Act.put,pA,pB,pC])
       refine tg 1 ?_ hHeld ?_ ?_ rfl (by kernel_rfl) rfl fun _ _ _ h=>h
       rotate_left
       ·rintro w s1;go_simp;try with_reducible rfl
       (try simp only[Act.put,pA,pB,pC])
       refine tg 2 ?_ hHeld ?_ ?_ rfl (by kernel_rfl) rfl fun _ _ _ h=>h
       rotate_left
       ·rintro w s1;go_simp;try with_reducible rfl
       (try simp only[Act.put,pA,pB,pC])
       refine tg 3 ?_ hHeld ?_ ?_ rfl (by kernel_rfl) rfl fun _ _ _ h=>h
       rotate_left
       ·rintro w s1;obtain⟨c0,c1,c2,c3,c4,c5,c6,c7⟩:=HC8.out _ (HW11.out _ s1);go_simp;try with_reducible rfl
       (try simp only[Act.put,pA,pB,pC])
       refine tg 4 ?_ hHeld ?_ ?_ rfl (by kernel_rfl) rfl fun _ _ _ h=>h
       rotate_left
       ·rintro w s1;go_simp;try with_reducible rfl
       (try simp only[Act.put,pA,pB,pC])
       refine rdy 5 (fun K hK=>?_) rfl (by kernel_rfl)
       go_simp
       refine(HPX.out _ hHeld).mono ?_;rintro e w12 ⟨rfl,hg⟩;refine hK.out _ _ (ze hHeld hg) (fun hHeld=>?_)
       clear hK K
       (try simp only[Act.put,pA,pB,pC])
       refine tg 6 ?_ hHeld ?_ ?_ rfl (by kernel_rfl) rfl fun _ _ _ h=>h
       rotate_left
       ·rintro w s1;go_simp;try with_reducible rfl
       (try simp only[Act.put,pA,pB,pC])
       refine tg 7 ?_ hHeld ?_ ?_ rfl (by kernel_rfl) rfl fun _ _ _ h=>h
       rotate_left
       ·rintro w s1;go_simp;try with_reducible rfl
       (try simp only[Act.put,pA,pB,pC])
       refine tg 8 ?_ hHeld ?_ ?_ rfl (by kernel_rfl) rfl fun _ _ _ h=>h
       rotate_left
       ·rintro w s1;go_simp;try with_reducible rfl
       (try simp only[Act.put,pA,pB,pC])
       refine tg 9 ?_ hHeld ?_ ?_ rfl (by kernel_rfl) rfl fun _ _ _ h=>h
       rotate_left
       ·rintro w s1;go_simp;try with_reducible rfl
       (try simp only[Act.put,pA,pB,pC])
       refine tg 10 ?_ hHeld ?_ ?_ rfl (by kernel_rfl) rfl fun _ _ _ h=>h
       rotate_left
       ·rintro w s1;go_simp;try with_reducible rfl
       (try simp only[Act.put,pA,pB,pC])
       refine tg 11 ?_ hHeld ?_ ?_ rfl (by kernel_rfl) rfl fun _ _ _ h=>h
       rotate_left
       ·rintro w s1;obtain⟨c0,c1,c2,c3,c4,c5,c6,c7⟩:=HC8.out _ (HW11.out _ s1);go_simp;try with_reducible rfl
       (try simp only[Act.put,pA,pB,pC])
       refine tg 12 ?_ hHeld ?_ ?_ rfl (by kernel_rfl) rfl fun _ _ _ h=>h
       rotate_left
       ·rintro w s1;go_simp;try with_reducible rfl
       (try simp only[Act.put,pA,pB,pC])
       refine tg 13 ?_ hHeld ?_ ?_ rfl (by kernel_rfl) rfl fun _ _ _ h=>h
       rotate_left
       ·rintro w s1;go_simp;try with_reducible rfl
       (try simp only[Act.put,pA,pB,pC])
       refine tg 14 ?_ hHeld ?_ ?_ rfl (by kernel_rfl) rfl fun _ _ _ h=>h
       rotate_left
       ·rintro w s1;go_simp;try with_reducible rfl
       (try simp only[Act.put,pA,pB,pC])
       refine rdy 15 (fun K hK=>?_) rfl (by kernel_rfl)
       go_simp
       refine(HPB.out _ (ze HW9.out hHeld)).mono ?_;rintro e w12 ⟨rfl,hg⟩;refine hK.out _ _ (ze hHeld hg) (fun hHeld=>?_)
       clear hK K
       (try simp only[Act.put,pA,pB,pC])
       refine tg 16 ?_ hHeld ?_ ?_ rfl (by kernel_rfl) rfl fun _ _ _ h=>h
       rotate_left
       ·rintro w s1;go_simp;try with_reducible rfl
       (try simp only[Act.put,pA,pB,pC])
       refine tg 17 ?_ hHeld ?_ ?_ rfl (by kernel_rfl) rfl fun _ _ _ h=>h
       rotate_left
       ·rintro w s1;go_simp;try with_reducible rfl
       (try simp only[Act.put,pA,pB,pC])
       refine wpAnyH_done (by kernel_rfl) ?_ _
       go_wp2
       go_roundw
       case rel=>exact⟨k+1,by omega,by go_num,ze HW9.out hHeld⟩
       case measure=>simp[intOf];omega
      ·have h60I:¬(n:Int)<60:=by omega
       go_wp2
       go_roundw
       case rel=>exact⟨j+1,by omega,by go_num,ze HA.out (ze HG.out HX.out)⟩
       case measure=>simp[intOf];omega
     ·go_wp2
      go_roundw
      case rel=>exact⟨j+1,by omega,by go_num,ze HA.out (ze HG.out HX.out)⟩
      case measure=>simp[intOf];omega
   ·go_wp2
    go_meet
    exact HA.out
 case rest=>
 have HGB:=za (ze HGA.out hcut);have HL2:=za (HL.out.grown hcut);clear hcut HGA HL;generalize wc=WB at *
 go_upto_region 19 with fail
 go_cut [11] (fun s wx=>∃g,s = .slice (some ⟨g,0,none⟩) 35 35∧WB.grownBy wx none∧zh6 wx g litP)
 case first=>as_aux_lemma=>
  go_wp2_with (refine zdy _ rfl litP 35 rfl (by omega) (by omega) rfl (by kernel_rfl) (fun C hC=>?_);have HC:=za hC;clear hC)
  go_meet
  exact⟨_,rfl,zg (zd _) _,zmg _ _ _ HC.out⟩
 case rest=>
 obtain⟨gP,rfl,hg,hl⟩:=hcut;have HGC:=za (ze HGB.out hg);have HL3:=za (HL2.out.grown hg);have HP:=za hl;have HPK:=za litP_ok;have HP35:Hid (litP.length=35):=(show _=_ from rfl)
 clear hg hl HGB HL2;generalize litP=P at *;generalize wc=WC at *
 go_upto_block 4 with fail
 go_cut [] (fun wx=>WC.grownBy wx none)
 case first=>as_aux_lemma=>
  go_wp2
  go_loopw [12] (fun s wr=>∃j:Nat,j≤35∧s = .int .i64 j∧WC.grownBy wr none) (fun s _=>35-(intOf s).toNat)
  case atStart=>exact⟨0,by omega,rfl,zd _⟩
  case round=>
   obtain⟨j,hj,rfl,hg⟩:=hrel;have HG:=za hg;clear hg;generalize wr=W5 at *
   rcases Nat.lt_or_ge j 35 with hlt|hge
   ·go_wp2_with (first
     | (go_at_call 8;refine(zsu j (by omega) _ P _ (by have:=(HP.out.grown HG.out).cmds HP35.out (by omega) HPK.out 0 (by omega);simpa using this)).mono ?_;rintro e w5 ⟨rfl,hg⟩;have HG:=za (ze HG.out hg);clear hg)
     | (go_at_call 7;refine(zps j (by omega) _ (P.drop j) _ ((HP.out.grown HG.out).cmds HP35.out (by omega) HPK.out j (by omega))).mono ?_;rintro e w5 ⟨rfl,hg⟩;have HG:=za (ze HG.out hg);clear hg))
    go_roundw
    case rel=>exact⟨j+1,by omega,by go_num,HG.out⟩
    case measure=>simp[intOf];omega
   ·go_wp2
    go_meet
    exact HG.out
 case rest=>
 have HGD:=za (ze HGC.out hcut);have HL4:=za (HL3.out.grown hcut);have HP4:=za (HP.out.grown hcut);clear hcut HGC HL3 HP;generalize wc=WD at *
 go_upto_region 26 with (go_at_call 30;refine(zel (bs:=fun k=>WD.heap.size≤k) 3 2 3 rfl WD (fun _ h=>h)).mono ?_;rintro e w6 ⟨tb,rfl,hle,hA,hg⟩;have HA:=za hA;have HG:=za hg;clear hA hg)
 have HK0:=za (zmc 3 2 2 rfl _ HA.out);generalize (qn 3 2 0).norm=L0 at *;generalize zce 3 (yu (3:Nat) 2)=R0 at *
 go_upto_block 6 with fail
 go_cut [] (fun wx=>WD.grownBy wx none∧∃Lx Rx,At (fun k=>WD.heap.size≤k) wx tb Lx∧Up 3 2 35 Lx Rx)
 case first=>as_aux_lemma=>
  go_wp2
  go_loopw [14] (fun s wr=>∃(j:Nat) (Lx:Tab) (Rx:yp),j≤35∧s = .int .i64 j∧WD.grownBy wr none∧At (fun k=>WD.heap.size≤k) wr tb Lx∧Up 3 2 j Lx Rx) (fun s _=>35-(intOf s).toNat)
  case atStart=>exact⟨0,_,_,by omega,rfl,HG.out,HA.out,HK0.out⟩
  case round=>
   clear HG HA HK0;obtain⟨j,Lx,Rx,hj,rfl,hg,hA,hK⟩:=hrel;have HG:=za hg;have HA:=za hA;have HK:=za hK;clear hg hA hK;generalize wr=W5 at *
   rcases Nat.lt_or_ge j 35 with hlt|hge
   ·have hcell:=fun t u h=>(HP4.out.grown HG.out).cell j (by rw[HP35.out];exact hlt) t u h
    have hki:=HPK.out (P.getD j wkD) (by simp only[List.getD_eq_getElem?_getD,List.getElem?_eq_getElem (show j<P.length by rw[HP35.out];exact hlt),Option.getD_some];exact List.getElem_mem _)
    generalize P.getD j wkD=c at *;obtain⟨kind,node,zvw,zvx,zvy,zvz,key,code⟩:=c;have c0:=hcell 0 _ rfl;have c1:=hcell 1 _ rfl;have c2:=hcell 2 _ rfl;have c3:=hcell 3 _ rfl;have c4:=hcell 4 _ rfl;have c5:=hcell 5 _ rfl;have c6:=hcell 6 _ rfl;have c7:=hcell 7 _ rfl;simp only[Nat.add_zero] at c0;have HKI:=za hki;clear hcell hki;have HBD:Hid (Lx.offers<1000000∧Lx.next<1000000):=(show _∧_ from by have h1:=HK.out.both.sim.s0.next;have h2:=HK.out.both.sim.s0.offers;have h3:=HK.out.both.rb.o1;have h4:=HK.out.both.rb.x1;omega)
    go_wp2_with (go_at_call 22;refine(zj8 HA.out HK.out.both.inv (by omega) HBD.out.1 HBD.out.2 ⟨kind,node,zvw,zvx,zvy,zvz,key,code⟩ (by have h1:key.size≤100:=HKI.out;show(key.size:Int)≤_;omega) (fun k hk=>Nat.le_trans HG.out.size hk)).mono ?_;rintro e w7 ⟨rfl,hA,hO⟩;have HA7:=za hA;have HG7:=za (zr2 HG.out hO);clear hA hO)
    go_roundw
    case rel=>exact⟨j+1,_,_,by omega,by go_num,HG7.out,HA7.out,HK.out.act (by omega) HA7.out.nod⟩
    case measure=>simp[intOf];omega
   ·have e:j=35:=by omega
    subst e;go_wp2
    go_meet
    exact⟨HG.out,_,_,HA.out,HK.out⟩
 case rest=>
 obtain⟨hg,Lx,Rx,hA,hK⟩:=hcut;clear HA HG HK0;have HG:=za (ze HGD.out hg);have HL5:=za (HL4.out.grown hg);have HP5:=za (HP4.out.grown hg);have HBY:=za (zc6 hA (hK.fit (by omega) (by omega) rfl rfl).1)
 have HBM:=za (hK.fit (by omega) (by omega) rfl rfl).2
 have HEB:=za (zka Lx);clear hg hA hK HGD HL4 HP4;generalize qa Lx=lb at *;generalize wc=WE at *
 go_upto_region 31 with (go_at_call 40;refine HBY.out.mono ?_;rintro e w8 ⟨v,rfl,ho,hg⟩;obtain⟨pb,cb,rfl⟩:=zhq ho;have HB4:=za (xq ho);have HG8:=za (ze HG.out hg);have HL8:=za (HL5.out.grown hg);have HP8:=za (HP5.out.grown hg);clear ho hg)
 clear HBY HG HL5 HP5;generalize w8=W9 at *;obtain⟨n,hn⟩:∃n,n=lb.length:=⟨_,rfl⟩;have HN:=za hn;rw[←hn];have hnm:n≤60000:=by rw[hn];exact HBM.out
 clear hn
 go_upto_block 8 with fail
 go_cut [] (fun wx=>W9.grownBy wx none)
 case first=>as_aux_lemma=>
  go_wp2
  go_loopw [16] (fun s wx=>∃k:Nat,k≤n∧s = .int .i64 k∧W9.grownBy wx none) (fun s _=>n-(intOf s).toNat)
  case atStart=>exact⟨0,Nat.zero_le _,rfl,zd _⟩
  case round=>
   obtain⟨k,hk,rfl,hg⟩:=hrel;have HX:=za hg;clear hg;generalize wr=W10 at *
   rcases Nat.lt_or_ge k n with hkn|hkn
   ·have HBX:=za (HB4.out.later (Nat.le_refl _) HX.out)
    have hcv:=ys HBX.out;rw[←HN.out] at hcv;have kc:=Lib.run_convert_string_bytes (P:=Tryz.prog) W10 9 25 5 (ofB lb) (u:=.string) Tryz.underlying9 Tryz.underlying25 Tryz.underlying5;have hsz:(ofB lb).size=n:=by rw[HN.out];simp[ofB,ByteArray.size]
    have hcap:n≤cb:=by
     obtain⟨p1,c1,e1,h1,h2,-⟩:=HBX.out.ex
     injection e1 with _ _ e3
     rw[HN.out,e3];exact h1
    obtain⟨hb1,hb2⟩:=zcn W10 (ofB lb) k (by omega)
    have hv:=zav (ofB lb) _ (List.getElem_mem (by rw[zy];omega:k<(qz (ofB lb)).length))
    generalize (qz (ofB lb))[k]'_=v at *;have HCS:=za (fun z=>zll W10 (ofB lb) (by omega) k (by omega) z)
    rw[hsz] at kc;have HSZ:=za hsz;clear hsz
    go_upto_region 36 with fail
    obtain⟨hxr,hxg⟩:=HCS.out (bits BinOp.xor IntKind.u8 v 1);rw[HSZ.out] at hxr;have HV:=za (zn3 v hv);generalize bits BinOp.xor IntKind.u8 v 1=z at *;generalize (Lib.bytesWorld W10 5 (ofB lb)).setCell ⟨W10.heap.size,k,none⟩ (.int .u8 z)=W11 at *;have HW9:=za (ze HX.out hxg);have HPX:=za (zh4 _ _ W11 hxr (BL.set (zav _) k HV.out.1 HV.out.2));have HPB:Hid (∀W',W9.grownBy W' none→Calls Tryz.prog 8 #[.int .u8 1,.int .u8 1,.slice none 0 0,.int .u8 0,.slice pb k cb] W' (Yes W')):=(show ∀_,_ from fun W' hg=>zh4 _ (lb.take k) W' ((HB4.out.later (Nat.le_refl _) hg).front (by rw[←HN.out];omega)) (HEB.out.take k))
    clear hxr hxg hb1 hb2 hv hcv kc;have hkcb:k≤cb:=by omega
    go_wp2_with (first
     | (go_at_call 8;(with_reducible refine HPX.out.mono ?_);rintro e w12 ⟨rfl,hg⟩;have HG12:=za (ze HW9.out hg);clear hg)
     | (go_at_call 8;(with_reducible refine(HPB.out _ HG12.out).mono ?_);rintro e w13 ⟨rfl,hg⟩;have HG13:=za (ze HG12.out hg);clear hg))
    go_roundw
    case rel=>exact⟨k+1,by omega,by go_num,HG13.out⟩
    case measure=>simp[intOf];omega
   ·go_wp2
    go_meet
    exact HX.out
 case rest=>
 have HG:=za (ze HG8.out hcut);have HL9:=za (HL8.out.grown hcut);have HP9:=za (HP8.out.grown hcut);clear hcut HG8 HL8 HP8;generalize wc=WF at *;have HLC:Hid (∀W',WF.grownBy W' none→Xg W' W'.heap.size (.slice (some ⟨gL,0,none⟩) 25 25) L):=(show ∀_,_ from fun W' hg=>by have:=(HL9.out.grown hg).cmds HL25.out (by omega) (fun c hc=>(HOK.out c hc).2) 0 (by omega);simpa using this)
 have HPC:Hid (∀W',WF.grownBy W' none→Xg W' W'.heap.size (.slice (some ⟨gP,0,none⟩) 35 35) P):=(show ∀_,_ from fun W' hg=>by have:=(HP9.out.grown hg).cmds HP35.out (by omega) HPK.out 0 (by omega);simpa using this)
 have HF:=za (zd WF)
 go_wp2_with (first
  | (go_at_call 6;(with_reducible refine(zsv _ _ _ (HPC.out _ HF.out)).mono ?_);rintro e w9 ⟨rfl,hg⟩;have HF:=za (ze HF.out hg);clear hg)
  | (go_at_call 7;(with_reducible refine(zpr _ _ _ (HLC.out _ HF.out)).mono ?_);rintro e w9 ⟨rfl,hg⟩;have HF:=za (ze HF.out hg);clear hg)
  | (go_at_call 7;(with_reducible refine(zn4 _ _ _ (HLC.out _ HF.out)).mono ?_);rintro e w9 ⟨rfl,hg⟩;have HF:=za (ze HF.out hg);clear hg)
  | (go_at_call 44;(with_reducible refine(zpq _).mono ?_);rintro e w9 ⟨rfl,hg⟩;have HF:=za (ze HF.out hg);clear hg)
  | (go_at_call 44;(with_reducible refine(zpp _).mono ?_);rintro e w9 ⟨rfl,hg⟩;have HF:=za (ze HF.out hg);clear hg)
  | (go_at_call 10;(with_reducible refine(qd _).mono ?_);rintro e w9 ⟨rfl,hg⟩;have HF:=za (ze HF.out hg);clear hg))
 go_ret
 exact⟨rfl,ze HG.out HF.out⟩
end Go.Proofs.YtjfelfjobeeenaaGreat
namespace Go.Sf
open Go.ChangeShapes Go.WideShapes Go.ChangeAt Go.RowKit
variable {P : Program} {H : Type} {enc : TypeId × Value → H}
theorem post_of_grown {f:Func} {s:ChangeSpec} {apart fresh handsOn again:Bool} {W W':World} {args:Array Value} {v:Value} {ds gs:List (DataW H)} {before pa pv:List MemPlace}
  (hW:DataW.Whole enc P f.params.toList s.vars apart W args.toList ds gs before)
  (hres:∀(b:Nat) (sp:Nat→Bool) (hd:Bool),DataW.TrodAll enc P W' b sp hd f.resultTypes.toList (v.resultList f.resultTypes.size) (s.fn H (ds++gs)).results [])
  (hargs:∀sp:Nat→Bool,(∀p∈before,sp p.block=true)→DataW.TrodAll enc P W' 0 sp true f.params.toList args.toList (s.fn H (ds++gs)).args pa)
  (hvars:∀sp:Nat→Bool,(∀p∈before,sp p.block=true)→DataW.TrodVars enc P W' sp s.vars (s.fn H (ds++gs)).vars pv)
  (hps:before=pa++pv) (hg:W.grownBy W' none)
  (hok:∀(j:Nat) (t:TypeId) (r:Value),f.resultTypes[j]? = some t→(v.resultList f.resultTypes.size)[j]? = some r→Value.okWide P W' .any 0 t r) :
  s.post enc P f apart fresh handsOn again W args v W':=by
 have hold:∀p∈before,(fun b=>decide (b<W.heap.size)) p.block=true:=fun p hp=>by simpa using hW.lt p hp
 have hlt:∀p∈before,p.block<W.heap.size:=fun p hp=>hW.lt p hp
 refine⟨ds,gs,before,[],pa,pv,hW,hres _ _ _,hargs _ hold,hvars _ hold,⟨hg.os,hg.output,fun i hi=>by rw[hg.block i hi (by simp)];exact(World.keptBut_refl W (fun p=>p∈before∧(p∈[]∨p∈pa∨p∈pv))).2.2 i hi⟩,fun _=>?_⟩
 obtain⟨_,_,_,_,_,hz,hn⟩:=hW;refine⟨hok,_,_,([]++pa)++pv,⟨[]++pa,pv,trodAll_append (hargs _ (fun _ _=>rfl)) (hres _ _ _),hvars _ (fun _ _=>rfl),rfl,?_,?_⟩,?_⟩
 ·intro b off hp
  have hp':MemPlace.cell b off∈before:=by rw[hps];simpa using hp
  rw[World.frozen?_of_block (a:=⟨b,off,none⟩) (hg.block b (hlt _ hp') (by simp))]
  exact hz b off hp'
 ·intro ha
  have:=hn ha;rw[hps] at this;simpa using this
 ·intro p hp _
  rw[hps];simpa using hp
end Go.Sf
