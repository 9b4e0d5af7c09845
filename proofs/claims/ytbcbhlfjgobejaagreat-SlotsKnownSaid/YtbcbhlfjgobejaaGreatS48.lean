/- SlotsKnown: its second row of calls; its row of numbers. Conditions: none, or as the theorems say. -/
import Derived.Test.YtbcbhlfjgobejaaGreatS47
set_option linter.unusedSimpArgs false
set_option linter.unusedVariables false
namespace Go.Proofs.YtbcbhlfjgobejaaGreat
set_option maxHeartbeats 200000000
open Go.RowKit Go.Sf Go.Shelf
set_option maxRecDepth 100000
theorem jn {w:World} {k t n:Int} {B F:List Int} {p fp:Option Addr} {c fc:Nat} (hb:zx w (.slice p B.length c) B) (hf:zx w (.slice fp F.length fc) F) (h:((B.all λx=>decide (0≤x∧x<256)) && (F.all λx=>decide (0≤x∧x<256)) && decide (0≤k∧k≤255) && decide (0≤t∧t≤255) && decide (0≤n∧n≤1000) && decide (B.length≤1000) && decide (F.length≤1000))=true):qr w ⟨k,B,p,c,t,n,F,fp,fc⟩:=by
 simp only[Bool.and_eq_true,List.all_eq_true,decide_eq_true_eq] at h;obtain⟨⟨⟨⟨⟨⟨h1,h2⟩,h3⟩,h4⟩,h5⟩,h6⟩,h7⟩:=h
 exact⟨hb,h1,hf,h2,h3,h4,by show _≤n∧n≤_;omega,by show B.length≤_;omega,by show F.length≤_;omega⟩
theorem Yd (w:World) (l:List Int) (fz:Nat × Nat):zx (w.alloc (.cells (zg l).toArray 5 fz)) (.slice (some ⟨w.heap.size,0,none⟩) l.length l.length) l:=zks _ rfl (heap_alloc_new w _) rfl
theorem c2_row (w X:World) (hX:X=(((((((((w.alloc (.cells #[.int .u8 97,.int .u8 98] 5 (2,3))).alloc (.cells #[.int .u8 48,.int .u8 49,.int .u8 50,.int .u8 51,.int .u8 52,.int .u8 53,.int .u8 54,.int .u8 55,.int .u8 56,.int .u8 57] 5 (10,11))).alloc (.cells #[.int .u8 99,.int .u8 100,.int .u8 101,.int .u8 102,.int .u8 103,.int .u8 104] 5 (6,7))).alloc
   (.cells #[.int .u8 48,.int .u8 49,.int .u8 50,.int .u8 51,.int .u8 52,.int .u8 53,.int .u8 54,.int .u8 55,.int .u8 56,.int .u8 57,.int .u8 48,.int .u8 49,.int .u8 50,.int .u8 51,.int .u8 52,.int .u8 53,.int .u8 54,.int .u8 55,.int .u8 56,.int .u8 57] 5 (20,21))).alloc (.cells #[.int .u8 255,.int .u8 9,.int .u8 255] 5)).alloc (.cells #[.int .u8 122] 5 (1,2))).alloc (.cells #[.int .u8 13] 5)).alloc (.cells #[.int .u8 1] 5)).alloc
   (.cells #[.int .u8 0,.slice (some ⟨w.heap.size,0,none⟩) 2 2,.int .u8 0,.int .i64 0,.slice none 0 0,.int .u8 1,.slice (some ⟨w.heap.size+1,0,none⟩) 10 10,.int .u8 60,.int .i64 0,.slice none 0 0,.int .u8 5,.slice none 0 0,.int .u8 0,.int .i64 0,.slice none 0 0,.int .u8 2,.slice (some ⟨w.heap.size+1+1,0,none⟩) 6 6,.int .u8 99,.int .i64 0,.slice none 0 0,.int .u8 0,.slice none 0 0,.int .u8 0,.int .i64 0,.slice none 0 0,.int .u8 6,.slice none 0 0,.int .u8 0,.int .i64 1,.slice none 0 0,
    .int .u8 3,.slice (some ⟨w.heap.size+1+1+1,0,none⟩) 20 20,.int .u8 20,.int .i64 0,.slice (some ⟨w.heap.size+1+1+1+1,0,none⟩) 3 3,.int .u8 0,.slice (some ⟨w.heap.size+1+1+1+1+1,0,none⟩) 1 1,.int .u8 0,.int .i64 0,.slice (some ⟨w.heap.size+1+1+1+1+1+1,0,none⟩) 1 1,.int .u8 5,.slice none 0 0,.int .u8 0,.int .i64 1,.slice (some ⟨w.heap.size+1+1+1+1+1+1+1,0,none⟩) 1 1] 49))):(∃l2,ur X (.slice (some ⟨w.heap.size+1+1+1+1+1+1+1+1,0,none⟩) 9 9) l2)∧w.grownBy X none:=by
 subst hX;refine⟨?_,by repeat (first|exact zi _|refine zp ?_ _)⟩
 have key:∀(w:World) (C:Array Value) (fz:Nat × Nat),(w.alloc (.cells C 5 fz)).heap.size=w.heap.size+1:=λw C fz=>by simp
 have gk:∀(w:World) (C:Array Value) (fz:Nat × Nat),w.grownBy (w.alloc (.cells C 5 fz)) none:=λw C fz=>ze _ _ none
 have r0:=Yd w [97,98] (2,3);have g1:=gk w (zg [97,98]).toArray (2,3);have k1:=key w (zg [97,98]).toArray (2,3)
 show ∃l2,ur (((((((((w.alloc (.cells (zg [97,98]).toArray 5 (2,3))).alloc (.cells (zg [48,49,50,51,52,53,54,55,56,57]).toArray 5 (10,11))).alloc (.cells (zg [99,100,101,102,103,104]).toArray 5 (6,7))).alloc (.cells (zg [48,49,50,51,52,53,54,55,56,57,48,49,50,51,52,53,54,55,56,57]).toArray 5 (20,21))).alloc (.cells (zg [255,9,255]).toArray 5 (0,0))).alloc (.cells (zg [122]).toArray 5 (1,2))).alloc (.cells (zg [13]).toArray 5 (0,0))).alloc (.cells (zg [1]).toArray 5 (0,0))).alloc _) _ l2
 generalize w.alloc (.cells (zg [97,98]).toArray 5 (2,3))=w1 at *;have r1:=Yd w1 [48,49,50,51,52,53,54,55,56,57] (10,11);have g2:=gk w1 (zg [48,49,50,51,52,53,54,55,56,57]).toArray (10,11);have k2:=key w1 (zg [48,49,50,51,52,53,54,55,56,57]).toArray (10,11);generalize w1.alloc (.cells (zg [48,49,50,51,52,53,54,55,56,57]).toArray 5 (10,11))=w2 at *;have r2:=Yd w2 [99,100,101,102,103,104] (6,7);have g3:=gk w2 (zg [99,100,101,102,103,104]).toArray (6,7);have k3:=key w2 (zg [99,100,101,102,103,104]).toArray (6,7);generalize w2.alloc (.cells (zg [99,100,101,102,103,104]).toArray 5 (6,7))=w3 at *;have r3:=Yd w3 [48,49,50,51,52,53,54,55,56,57,48,49,50,51,52,53,54,55,56,57] (20,21);have g4:=gk w3 (zg [48,49,50,51,52,53,54,55,56,57,48,49,50,51,52,53,54,55,56,57]).toArray (20,21);have k4:=key w3 (zg [48,49,50,51,52,53,54,55,56,57,48,49,50,51,52,53,54,55,56,57]).toArray (20,21);generalize w3.alloc (.cells (zg [48,49,50,51,52,53,54,55,56,57,48,49,50,51,52,53,54,55,56,57]).toArray 5 (20,21))=w4 at *;have r4:=Yd w4 [255,9,255] (0,0);have g5:=gk w4 (zg [255,9,255]).toArray (0,0);have k5:=key w4 (zg [255,9,255]).toArray (0,0);generalize w4.alloc (.cells (zg [255,9,255]).toArray 5 (0,0))=w5 at *;have r5:=Yd w5 [122] (1,2);have g6:=gk w5 (zg [122]).toArray (1,2);have k6:=key w5 (zg [122]).toArray (1,2);generalize w5.alloc (.cells (zg [122]).toArray 5 (1,2))=w6 at *;have r6:=Yd w6 [13] (0,0);have g7:=gk w6 (zg [13]).toArray (0,0);have k7:=key w6 (zg [13]).toArray (0,0);generalize w6.alloc (.cells (zg [13]).toArray 5 (0,0))=w7 at *;have r7:=Yd w7 [1] (0,0);have g8:=gk w7 (zg [1]).toArray (0,0);have k8:=key w7 (zg [1]).toArray (0,0);generalize w7.alloc (.cells (zg [1]).toArray 5 (0,0))=w8 at *;rw[k7,k6,k5,k4,k3,k2,k1] at r7;rw[k6,k5,k4,k3,k2,k1] at r6;rw[k5,k4,k3,k2,k1] at r5;rw[k4,k3,k2,k1] at r4;rw[k3,k2,k1] at r3;rw[k2,k1] at r2;rw[k1] at r1;rw[k7,k6,k5,k4,k3,k2,k1] at k8;rw[←k8];generalize hw:Obj.cells _ 49=ob;have hb:=heap_alloc_new w8 ob;have g9:=ze w8 ob none;have f8:=λ{v:Value} {l:List Int} (h:zx w8 v l)=>zx.grown h g9 (r:=none) (by simp)
 have f7:=λ{v:Value} {l:List Int} (h:zx w7 v l)=>f8 (zx.grown h g8 (r:=none) (by simp))
 have f6:=λ{v:Value} {l:List Int} (h:zx w6 v l)=>f7 (zx.grown h g7 (r:=none) (by simp))
 have f5:=λ{v:Value} {l:List Int} (h:zx w5 v l)=>f6 (zx.grown h g6 (r:=none) (by simp))
 have f4:=λ{v:Value} {l:List Int} (h:zx w4 v l)=>f5 (zx.grown h g5 (r:=none) (by simp))
 have f3:=λ{v:Value} {l:List Int} (h:zx w3 v l)=>f4 (zx.grown h g4 (r:=none) (by simp))
 have f2:=λ{v:Value} {l:List Int} (h:zx w2 v l)=>f3 (zx.grown h g3 (r:=none) (by simp))
 have f1:=λ{v:Value} {l:List Int} (h:zx w1 v l)=>f2 (zx.grown h g2 (r:=none) (by simp))
 have nn:=Yq (w8.alloc ob);obtain⟨l2,hl2⟩:∃l:List vn,l = [⟨0,[97,98],some ⟨w.heap.size,0,none⟩,2,0,0,[],none,0⟩,⟨1,[48,49,50,51,52,53,54,55,56,57],some ⟨w.heap.size+1,0,none⟩,10,60,0,[],none,0⟩,⟨5,[],none,0,0,0,[],none,0⟩,⟨2,[99,100,101,102,103,104],some ⟨w.heap.size+1+1,0,none⟩,6,99,0,[],none,0⟩,⟨0,[],none,0,0,0,[],none,0⟩,⟨6,[],none,0,0,1,[],none,0⟩,
  ⟨3,[48,49,50,51,52,53,54,55,56,57,48,49,50,51,52,53,54,55,56,57],some ⟨w.heap.size+1+1+1,0,none⟩,20,20,0,[255,9,255],some ⟨w.heap.size+1+1+1+1,0,none⟩,3⟩,⟨0,[122],some ⟨w.heap.size+1+1+1+1+1,0,none⟩,1,0,0,[13],some ⟨w.heap.size+1+1+1+1+1+1,0,none⟩,1⟩,⟨5,[],none,0,0,1,[1],some ⟨w.heap.size+1+1+1+1+1+1+1,0,none⟩,1⟩]:=⟨_,rfl⟩
 have hok:∀x∈l2,qr (w8.alloc ob) x:=λx hx=>by
  rw[hl2] at hx;simp only[List.mem_cons,List.not_mem_nil,or_false] at hx
  rcases hx with rfl|rfl|rfl|rfl|rfl|rfl|rfl|rfl|rfl
  ·exact jn (f1 r0) nn (by decide)
  ·exact jn (f2 r1) nn (by decide)
  ·exact jn nn nn (by decide)
  ·exact jn (f3 r2) nn (by decide)
  ·exact jn nn nn (by decide)
  ·exact jn nn nn (by decide)
  ·exact jn (f4 r3) (f5 r4) (by decide)
  ·exact jn (f6 r5) (f7 r6) (by decide)
  ·exact jn nn (f8 r7) (by decide)
 have h9:l2.length=9:=by rw[hl2];rfl
 rw[←hw] at hb;have hc:=zb2 (W:=w) (w:=w) (l:=l2) (w':=w8.alloc ob) hok (by rw[h9];decide) (by rw[←hw];exact hb) (by rw[hl2];rfl)
 rw[h9] at hc
 exact⟨l2,hc⟩
theorem keeps9 (j:Nat) (hj:j<8) (r:Int) (hr : -1000≤r∧r≤1000) (cb:Nat) (l2:List vn) (wr:World) (h:ur wr (.slice (some ⟨cb,0,none⟩) 9 9) l2) :
  Calls Tryz.prog 5 #[.int .u8 (j:Int),.slice (some ⟨cb,0,none⟩) 9 9,.slice (some ⟨wr.heap.size,0,none⟩) 9 9] (wr.alloc (.cells #[.int .i64 (-1),.int .i64 (j:Int),.int .i64 ((j:Int)-1),.int .i64 r,.int .i64 0,.int .i64 1,.int .i64 (j:Int),.int .i64 0,.int .i64 0] 3)) λe w'=>e = .returned (.bool true)∧wr.grownBy w' none:=by
 have hg:=ze wr (.cells #[.int .i64 (-1),.int .i64 (j:Int),.int .i64 ((j:Int)-1),.int .i64 r,.int .i64 0,.int .i64 1,.int .i64 (j:Int),.int .i64 0,.int .i64 0] 3) none;have hi:=zke (w:=wr.alloc (.cells #[.int .i64 (-1),.int .i64 (j:Int),.int .i64 ((j:Int)-1),.int .i64 r,.int .i64 0,.int .i64 1,.int .i64 (j:Int),.int .i64 0,.int .i64 0] 3)) (l:=[-1,(j:Int),(j:Int)-1,r,0,1,(j:Int),0,0]) 9 rfl (by simp) (λx hx=>by
  simp only[List.mem_cons,List.not_mem_nil,or_false] at hx
  rcases hx with rfl|rfl|rfl|rfl|rfl|rfl|rfl|rfl|rfl <;> omega) (heap_alloc_new wr _) rfl
 refine(zkf j (by omega) _ _ l2 _ _ (h.grown hg) hi).mono ?_
 rintro e w' ⟨rfl,h2⟩
 exact⟨rfl,zh hg h2⟩
theorem torn9 (c:Nat) (hc:c<256) (w:World):Calls Tryz.prog 4 #[.slice (some ⟨w.heap.size,0,none⟩) 3 3,.slice (some ⟨w.heap.size+1,0,none⟩) 3 3,.int .u8 (c:Int)] ((w.alloc (.cells #[.int .u8 97,.int .u8 98,.int .u8 99] 5 (3,4))).alloc (.cells #[.int .u8 97,.int .u8 98,.int .u8 100] 5 (3,4))) λe w'=>e = .returned (.bool true)∧w.grownBy w' none:=by
 have g1:=ze w (.cells (zg [97,98,99]).toArray 5 (3,4)) none;have r1:=Yd w [97,98,99] (3,4);have g2:=ze (w.alloc (.cells (zg [97,98,99]).toArray 5 (3,4))) (.cells (zg [97,98,100]).toArray 5 (3,4)) none;have r2:=Yd (w.alloc (.cells (zg [97,98,99]).toArray 5 (3,4))) [97,98,100] (3,4);have e:(w.alloc (.cells (zg [97,98,99]).toArray 5 (3,4))).heap.size=w.heap.size+1:=by simp
 rw[e] at r2;refine(zqb _ _ [97,98,99] [97,98,100] c hc _ (r1.grown g2 (r:=none) (by simp)) r2 (λx hx=>by simp at hx;omega) (λx hx=>by simp at hx;omega) (by decide) (by decide)).mono ?_
 rintro e w' ⟨rfl,h2⟩
 exact⟨rfl,zh (zh g1 g2) h2⟩
theorem torn36 (j:Nat) (hj:j<8) (w:World):Calls Tryz.prog 4 #[.slice (some ⟨w.heap.size,0,none⟩) 3 3,.slice (some ⟨w.heap.size+1,0,none⟩) 3 3,.int .u8 ((j:Int)*36)] ((w.alloc (.cells #[.int .u8 97,.int .u8 98,.int .u8 99] 5 (3,4))).alloc (.cells #[.int .u8 97,.int .u8 98,.int .u8 100] 5 (3,4))) λe w'=>e = .returned (.bool true)∧w.grownBy w' none:=by
 have h:=torn9 (j*36) (by omega) w
 rw[show((j*36:Nat):Int)=(j:Int)*36 from by omega] at h
 exact h
theorem gone1 (j:Nat) (hj:j<8) (W:World):Calls Tryz.prog 47 #[.int .i64 1,.int .i64 (j:Int)] W λe w'=>e = .returned (.bool true)∧W.grownBy w' none:=zh2 1 j (by decide) hj W
end Go.Proofs.YtbcbhlfjgobejaaGreat
