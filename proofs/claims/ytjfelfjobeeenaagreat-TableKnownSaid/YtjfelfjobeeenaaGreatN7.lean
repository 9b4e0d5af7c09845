/- starfishref02.Bytes: the walk. Conditions: none, or as the theorems say. -/
import Derived.Test.YtjfelfjobeeenaaGreatN6
import Derived.Lib.AppendStr
import Derived.Deep.OwnRows
import Derived.Laws.OwnMore
namespace Go.Proofs.YtjfelfjobeeenaaGreat
set_option maxHeartbeats 200000000
set_option linter.unusedVariables false
set_option linter.unusedSimpArgs false
open Go.RowKit Go.Sf
structure ze0 (W:World) (base g n m:Nat) (tail:List Int) (w:World):Prop where
 row:w.ownsRow base 5 1 (.slice (some ⟨g,0,none⟩) n n) n (List.replicate m (.int .u8 0)++zu tail)
 grown:W.grownBy w none
 le:W.heap.size≤g
theorem ze0.step {W w:World} {base g n m:Nat} {tail:List Int} (h:ze0 W base g n (m+1) tail w) (hn:m<n) (x:Int):ze0 W base g n m (x :: tail) (w.setCell ⟨g,m,none⟩ (.int .u8 x)):=by
 have hs:=Zm w g m (.int .u8 x);refine⟨?_,⟨hs.os.trans h.grown.os,hs.tape.trans h.grown.tape,hs.output.trans h.grown.output,Nat.le_trans h.grown.size hs.size,fun k hk _=>(hs.block k (Nat.lt_of_lt_of_le hk h.grown.size) (fun e=>by cases e;have:=h.le;omega)).trans (h.grown.block k hk (by simp))⟩,h.le⟩
 have hr:=zqm h.row m hn (.int .u8 x);have e1:List.replicate (m+1) (Value.int .u8 0)++zu tail=List.replicate m (Value.int .u8 0)++Value.int .u8 0 :: zu tail:=by
  rw[List.replicate_succ'];simp
 have e2:(List.replicate m (Value.int .u8 0)).length=m:=by simp
 rw[e1] at hr;have e3:=zqp (List.replicate m (Value.int .u8 0)) (.int .u8 0) (zu tail) (.int .u8 x);rw[e2] at e3;rw[e3] at hr
 exact hr
theorem ze0.facts {W w:World} {base g n m:Nat} {tail:List Int} (h:ze0 W base g n (m+1) tail w) (hn:m<n):(∃u,w.cell? ⟨g,m,none⟩=some u)∧w.frozen? ⟨g,m,none⟩=false:=by
 rcases h.row.2 with ⟨e1,_⟩|⟨b,c,cur,e1,_,hb,r1,r2,r3,r4⟩
 ·cases e1
 ·cases e1
  refine⟨⟨cur[m]'(by omega),?_⟩,?_⟩
  ·simp[World.cell?,hb]
  ·simp[World.frozen?,hb]
theorem zlj (W:World) (k:Nat) (hk:k≤1000):ze0 W W.heap.size W.heap.size k k [] (W.alloc (.cells (madeCells #[.int .u8 0] k) 5)):=by
 have hl:=toList_madeCells_one (.int .u8 0) k;have hs:(madeCells #[Value.int .u8 0] k).size=k:=by rw[←Array.length_toList,hl];simp
 refine⟨⟨by simp[zu],.inr ⟨W.heap.size,k,madeCells #[.int .u8 0] k,rfl,Nat.le_refl _,heap_alloc_new W _,Nat.le_refl _,by unfold maxLen;omega,by rw[hs];omega,?_⟩⟩,zc W _ none,Nat.le_refl _⟩
 rw[hl];simp[zu]
set_option maxRecDepth 100000 in
theorem zpw (N k:Nat) (hk0:0<k) (hk:k≤8) (hN:N<256 ^ 8) (W:World) (kk:Int) (hkk:kk=k):Calls Tryz.prog 54 #[.int .u64 N,.int .i64 kk] W fun e w'=>
  ∃v,e = .returned v∧ji w' v (be k N)∧W.grownBy w' none:=by
 subst hkk;have hmk:=run_make_row' (P:=Tryz.prog) 25 5 (.int .u8 0) 1 Tryz.underlying25 Zr rfl .i64 .i64 k (by omega) (by omega)
 have HS:Hid (ze0 W W.heap.size W.heap.size k k [] (W.alloc (.cells (madeCells #[.int .u8 0] k) 5))):=zlj W k (by omega)
 go_enter Tryz.func54,Tryz.ntmps54
 go_wp2
 go_loopw [0,6] (fun nv i wr=>∃(m nc:Nat) (tail:List Int),m≤k∧nv = .int .u64 nc∧nc<256 ^ 8∧i = .int .i64 ((k:Int)-m+1)∧be k N=be m nc++tail∧tail.length+m=k∧ze0 W W.heap.size W.heap.size k m tail wr) (fun _ i _=>(k:Int).toNat+1-(intOf i).toNat)
 case atStart=>exact⟨k,N,[],Nat.le_refl _,rfl,hN,by congr 1;omega,by simp,by simp,HS.out⟩
 case round=>
  obtain⟨m,nc,tail,hm,rfl,hnc,rfl,hbe,htl,hp⟩:=hrel;have HP:=za hp;clear hp
  cases m with
  | zero=>
   go_wp2
   go_ret
   have hbt:be k N=tail:=by simpa[be] using hbe
   refine⟨_,rfl,?_,HP.out.grown⟩;have hr:=HP.out.row;rw[hbt];have hl:tail.length=k:=by omega
   refine zcv (base:=W.heap.size) ?_;rw[hl];simpa using hr
  | succ m=>
   obtain⟨⟨u,c0⟩,f0⟩:=HP.out.facts (by omega)
   have he:k-(k-(m+1)+1)=m:=by omega
   have hlt:m<k:=by omega
   go_wp2;refine⟨⟨m,nc / 256,((nc%256:Nat):Int) :: tail,by omega,by simp,Nat.lt_of_le_of_lt (Nat.div_le_self _ _) hnc,by congr 1;omega,by rw[hbe,Uq];simp,by simp only[List.length_cons];omega,?_⟩,by simp[intOf];omega⟩
   have hnm:((nc%256:Nat):Int)=(nc:Int)%256:=rfl;rw[hnm]
   exact HP.out.step hlt _
structure BSt (W:World) (v:Value) (l:List Int) (w:World):Prop where
 row:w.ownsRow W.heap.size 5 1 v l.length (zu l)
 grown:W.grownBy w none
theorem BSt.grow {W w w':World} {v:Value} {l:List Int} (h:BSt W v l w) (hg:w.grownBy w' none):BSt W v l w':=
 ⟨h.row.kept hg (by
  rcases h:v.ownBlock with _|k
  ·exact Or.inl rfl
  ·exact Or.inr (by simp)),ze h.grown hg⟩
theorem BSt.app {W w w':World} {v v':Value} {l m:List Int} (h:BSt W v l w) (ho:w'.ownsRow W.heap.size 5 1 v' (l.length+m.length) (zu l++zu m)) (hg:w.grownBy w' v.ownBlock):BSt W v' (l++m) w':=
 ⟨by rw[List.length_append,←zgh];exact ho,zea h.grown h.row (Nat.le_refl _) hg⟩
theorem BSt.start (W:World) (x:Int):BSt W (.slice (some ⟨W.heap.size,0,none⟩) 1 1) [x] (W.alloc (.cells #[.int .u8 x] 5)):=
 ⟨⟨rfl,.inr ⟨W.heap.size,1,#[.int .u8 x],rfl,Nat.le_refl _,heap_alloc_new W _,Nat.le_refl _,by unfold maxLen;omega,rfl,rfl⟩⟩,zc W _ none⟩
theorem BSt.start' (W:World) (b:Obj) (x:Int):BSt (W.alloc b) (.slice (some ⟨W.heap.size+1,0,none⟩) 1 1) [x] ((W.alloc b).alloc (.cells #[.int .u8 x] 5)):=by
 have h:=BSt.start (W.alloc b) x;rw[show(W.alloc b).heap.size=W.heap.size+1 from by simp] at h
 exact h
theorem zdp (w:World) (x:Int):ji (w.alloc (.cells #[.int .u8 x] 5)) (.slice (some ⟨w.heap.size,0,none⟩) 1 1) [x]:=
 ⟨_,_,rfl,Or.inr ⟨_,rfl,cell_one_new w (.int .u8 x) _⟩⟩
theorem BSt.cells {W w:World} {v:Value} {l:List Int} {a0 a1 a2 a3 a4 a5 a6 a7:Value} {t:TypeId} (h:BSt (W.alloc (.cells #[a0,a1,a2,a3,a4,a5,a6,a7] t)) v l w) :
  w.cell? ⟨W.heap.size,0,none⟩=some a0∧w.cell? ⟨W.heap.size,1,none⟩=some a1∧w.cell? ⟨W.heap.size,2,none⟩=some a2∧w.cell? ⟨W.heap.size,3,none⟩=some a3∧w.cell? ⟨W.heap.size,4,none⟩=some a4∧w.cell? ⟨W.heap.size,5,none⟩=some a5∧w.cell? ⟨W.heap.size,6,none⟩=some a6∧w.cell? ⟨W.heap.size,7,none⟩=some a7:=by
 have e:=(h.grown.block W.heap.size (by simp) (by simp)).trans (heap_alloc_new W _)
 refine⟨?_,?_,?_,?_,?_,?_,?_,?_⟩ <;> simp[World.cell?,e]
theorem znx (s:ByteArray):Lib.strCells s=zu (qz s):=by
 simp[Lib.strCells,zu,qz,List.map_map]
 try rfl
theorem BSt.appS {W w w':World} {v v':Value} {l:List Int} (h:BSt W v l w) (s:ByteArray) (ho:w'.ownsRow W.heap.size 5 1 v' (l.length+s.size) (zu l++Lib.strCells s)) (hg:w.grownBy w' v.ownBlock):BSt W v' (l++qz s) w':=
 h.app (by rw[znx,←zy] at ho;exact ho) hg
theorem ja (x:Int) (k:Nat) (hk0:0<k) (hk:k≤8) (h0:0≤x) (h1:x<9223372036854775808) (W:World) (kk:Int) (hkk:kk=k):Calls Tryz.prog 54 #[.int .u64 (x%18446744073709551616),.int .i64 kk] W fun e w'=>
  ∃v,e = .returned v∧ji w' v (be k x.toNat)∧W.grownBy w' none:=by
 have hx:(x.toNat:Int)=x%18446744073709551616:=by omega
 have h:=zpw x.toNat k hk0 hk (by omega) W kk hkk
 rw[hx] at h
 exact h
theorem zcw {W w':World} {c:Cmd} {b:Obj} {l:List Int} {v':Value} (h:BSt (W.alloc b) v' l w') (hl:l=xm c):∃v,Ending.returned v' = .returned v∧w'.ownsRow W.heap.size 5 1 v (xm c).length (zu (xm c))∧W.grownBy w' none:=by
 subst hl
 exact⟨v',rfl,Vk h.row (by simp),ze (zc W b none) h.grown⟩
theorem be0 (n:Nat):be 0 n = []:=rfl
set_option maxRecDepth 100000 in
theorem zuo (node zvw zvx zvy zvz code:Int) (key:ByteArray) (W:World) (hm:ua ⟨1,node,zvw,zvx,zvy,zvz,key,code⟩=true) :
  Calls Tryz.prog 14 #[zp ⟨1,node,zvw,zvx,zvy,zvz,key,code⟩] W fun e w'=>∃v,e = .returned v∧w'.ownsRow W.heap.size 5 1 v (xm ⟨1,node,zvw,zvx,zvy,zvz,key,code⟩).length (zu (xm ⟨1,node,zvw,zvx,zvy,zvz,key,code⟩))∧W.grownBy w' none:=by
 have HF:Hid (0≤node∧node<255∧0≤zvw∧zvw≤65535∧0≤zvx∧zvx≤4611686018427387904∧0≤zvy∧zvy≤4611686018427387904∧0≤zvz∧zvz≤4611686018427387904∧0≤code∧code≤65535∧key.size≤64):=(show _∧_ from ux hm)
 have hks:((key.size:Int)%256)=(key.size:Int):=by have:=HF.out;omega
 clear hm;obtain⟨i0,hi,hz0,hz1,hz2⟩:=info_parts Zr;have P0:=za (BSt.start' W (.cells #[.int .u8 1,.int .i64 node,.int .i64 zvw,.int .i64 zvx,.int .i64 zvy,.int .i64 zvz,.string key,.int .i64 code] 29) 1);obtain⟨d0,d1,d2,d3,d4,d5,d6,d7⟩:=P0.out.cells;simp only[zp]
 go_enter Tryz.func14,Tryz.ntmps14
 go_wp2
 go_ret
 refine zcw P0.out ?_;simp[xm,Yo,Qw,Yr,Uq,be0]
set_option maxRecDepth 100000 in
theorem zup (node zvw zvx zvy zvz code:Int) (key:ByteArray) (W:World) (hm:ua ⟨2,node,zvw,zvx,zvy,zvz,key,code⟩=true) :
  Calls Tryz.prog 14 #[zp ⟨2,node,zvw,zvx,zvy,zvz,key,code⟩] W fun e w'=>∃v,e = .returned v∧w'.ownsRow W.heap.size 5 1 v (xm ⟨2,node,zvw,zvx,zvy,zvz,key,code⟩).length (zu (xm ⟨2,node,zvw,zvx,zvy,zvz,key,code⟩))∧W.grownBy w' none:=by
 have HF:Hid (0≤node∧node<255∧0≤zvw∧zvw≤65535∧0≤zvx∧zvx≤4611686018427387904∧0≤zvy∧zvy≤4611686018427387904∧0≤zvz∧zvz≤4611686018427387904∧0≤code∧code≤65535∧key.size≤64):=(show _∧_ from ux hm)
 have hks:((key.size:Int)%256)=(key.size:Int):=by have:=HF.out;omega
 clear hm;obtain⟨i0,hi,hz0,hz1,hz2⟩:=info_parts Zr;have P0:=za (BSt.start' W (.cells #[.int .u8 2,.int .i64 node,.int .i64 zvw,.int .i64 zvx,.int .i64 zvy,.int .i64 zvz,.string key,.int .i64 code] 29) 2);obtain⟨d0,d1,d2,d3,d4,d5,d6,d7⟩:=P0.out.cells;simp only[zp]
 go_enter Tryz.func14,Tryz.ntmps14
 go_wp2_with (first
  | (go_at_call 54;have K:=P0.out;refine(ja _ 2 (by omega) (by omega) (by have:=HF.out;omega) (by have:=HF.out;omega) _ 2 rfl).mono ?_;clear d0 d1 d2 d3 d4 d5 d6 d7;rintro e w1 ⟨y,rfl,hy,hg⟩;have Q0:=za (BSt.grow K hg);clear K P0;obtain⟨d0,d1,d2,d3,d4,d5,d6,d7⟩:=Q0.out.cells;have Y:=za hy;clear hy hg;simp only[])
  | (at_builtin;have K:=Q0.out;refine yy _ rfl _ _ 25 5 rfl i0 Tryz.underlying25 hi hz0 hz1 hz2 _ _ _ _ rfl K.row _ _ rfl Y.out (by have:=HF.out;simp[yn,zy] <;> omega) (by have:=K.grown.size;omega) ?_;intro v' w2 ho hg hat;have P1:=za (BSt.app K ho hg);clear K Q0 Y ho hg hat;clear d0 d1 d2 d3 d4 d5 d6 d7;obtain⟨d0,d1,d2,d3,d4,d5,d6,d7⟩:=P1.out.cells)
  | (go_at_call 54;have K:=P1.out;refine(ja _ 8 (by omega) (by omega) (by have:=HF.out;omega) (by have:=HF.out;omega) _ 8 rfl).mono ?_;clear d0 d1 d2 d3 d4 d5 d6 d7;rintro e w1 ⟨y,rfl,hy,hg⟩;have Q1:=za (BSt.grow K hg);clear K P1;obtain⟨d0,d1,d2,d3,d4,d5,d6,d7⟩:=Q1.out.cells;have Y:=za hy;clear hy hg;simp only[])
  | (at_builtin;have K:=Q1.out;refine yy _ rfl _ _ 25 5 rfl i0 Tryz.underlying25 hi hz0 hz1 hz2 _ _ _ _ rfl K.row _ _ rfl Y.out (by have:=HF.out;simp[yn,zy] <;> omega) (by have:=K.grown.size;omega) ?_;intro v' w2 ho hg hat;have P2:=za (BSt.app K ho hg);clear K Q1 Y ho hg hat;clear d0 d1 d2 d3 d4 d5 d6 d7;obtain⟨d0,d1,d2,d3,d4,d5,d6,d7⟩:=P2.out.cells))
 go_ret
 refine zcw P2.out ?_;simp[xm,Yo,Qw,Yr,Uq,be0]
set_option maxRecDepth 100000 in
theorem zuq (node zvw zvx zvy zvz code:Int) (key:ByteArray) (W:World) (hm:ua ⟨3,node,zvw,zvx,zvy,zvz,key,code⟩=true) :
  Calls Tryz.prog 14 #[zp ⟨3,node,zvw,zvx,zvy,zvz,key,code⟩] W fun e w'=>∃v,e = .returned v∧w'.ownsRow W.heap.size 5 1 v (xm ⟨3,node,zvw,zvx,zvy,zvz,key,code⟩).length (zu (xm ⟨3,node,zvw,zvx,zvy,zvz,key,code⟩))∧W.grownBy w' none:=by
 have HF:Hid (0≤node∧node<255∧0≤zvw∧zvw≤65535∧0≤zvx∧zvx≤4611686018427387904∧0≤zvy∧zvy≤4611686018427387904∧0≤zvz∧zvz≤4611686018427387904∧0≤code∧code≤65535∧key.size≤64):=(show _∧_ from ux hm)
 have hks:((key.size:Int)%256)=(key.size:Int):=by have:=HF.out;omega
 clear hm;obtain⟨i0,hi,hz0,hz1,hz2⟩:=info_parts Zr;have P0:=za (BSt.start' W (.cells #[.int .u8 3,.int .i64 node,.int .i64 zvw,.int .i64 zvx,.int .i64 zvy,.int .i64 zvz,.string key,.int .i64 code] 29) 3);obtain⟨d0,d1,d2,d3,d4,d5,d6,d7⟩:=P0.out.cells;simp only[zp]
 go_enter Tryz.func14,Tryz.ntmps14
 go_wp2_with (first
  | (go_at_call 54;have K:=P0.out;refine(ja _ 2 (by omega) (by omega) (by have:=HF.out;omega) (by have:=HF.out;omega) _ 2 rfl).mono ?_;clear d0 d1 d2 d3 d4 d5 d6 d7;rintro e w1 ⟨y,rfl,hy,hg⟩;have Q0:=za (BSt.grow K hg);clear K P0;obtain⟨d0,d1,d2,d3,d4,d5,d6,d7⟩:=Q0.out.cells;have Y:=za hy;clear hy hg;simp only[])
  | (at_builtin;have K:=Q0.out;refine yy _ rfl _ _ 25 5 rfl i0 Tryz.underlying25 hi hz0 hz1 hz2 _ _ _ _ rfl K.row _ _ rfl Y.out (by have:=HF.out;simp[yn,zy] <;> omega) (by have:=K.grown.size;omega) ?_;intro v' w2 ho hg hat;have P1:=za (BSt.app K ho hg);clear K Q0 Y ho hg hat;clear d0 d1 d2 d3 d4 d5 d6 d7;obtain⟨d0,d1,d2,d3,d4,d5,d6,d7⟩:=P1.out.cells)
  | (go_at_call 54;have K:=P1.out;refine(ja _ 8 (by omega) (by omega) (by have:=HF.out;omega) (by have:=HF.out;omega) _ 8 rfl).mono ?_;clear d0 d1 d2 d3 d4 d5 d6 d7;rintro e w1 ⟨y,rfl,hy,hg⟩;have Q1:=za (BSt.grow K hg);clear K P1;obtain⟨d0,d1,d2,d3,d4,d5,d6,d7⟩:=Q1.out.cells;have Y:=za hy;clear hy hg;simp only[])
  | (at_builtin;have K:=Q1.out;refine yy _ rfl _ _ 25 5 rfl i0 Tryz.underlying25 hi hz0 hz1 hz2 _ _ _ _ rfl K.row _ _ rfl Y.out (by have:=HF.out;simp[yn,zy] <;> omega) (by have:=K.grown.size;omega) ?_;intro v' w2 ho hg hat;have P2:=za (BSt.app K ho hg);clear K Q1 Y ho hg hat;clear d0 d1 d2 d3 d4 d5 d6 d7;obtain⟨d0,d1,d2,d3,d4,d5,d6,d7⟩:=P2.out.cells)
  | (at_builtin;have K:=BSt.grow P2.out (zc _ (.cells #[.int .u8 (key.size:Int)] 5) none);refine yy _ rfl _ _ 25 5 rfl i0 Tryz.underlying25 hi hz0 hz1 hz2 _ _ _ _ rfl K.row _ _ rfl (zdp _ _) (by have:=HF.out;simp[yn,zy] <;> omega) (by have:=K.grown.size;omega) ?_;intro v' w2 ho hg hat;have P3:=za (BSt.app K ho hg);clear K P2 ho hg hat;clear d0 d1 d2 d3 d4 d5 d6 d7;obtain⟨d0,d1,d2,d3,d4,d5,d6,d7⟩:=P3.out.cells)
  | (at_builtin;have K:=P3.out;refine Lib.wpList_append_own_string _ rfl _ _ 25 9 rfl _ 5 i0 Tryz.underlying25 Tryz.underlying9 hi hz0 hz1 hz2 _ _ _ rfl K.row _ rfl (by have:=HF.out;unfold maxLen;simp[yn,zy] <;> omega) (by have:=HF.out;simp[yn,zy] <;> omega) (by have:=K.grown.size;omega) ?_;intro v' w2 ho hg hat;have P4:=za (BSt.appS K key ho hg);clear K P3 ho hg hat;clear d0 d1 d2 d3 d4 d5 d6 d7;obtain⟨d0,d1,d2,d3,d4,d5,d6,d7⟩:=P4.out.cells))
 go_ret
 refine zcw P4.out ?_;have hks':((key.size%256:Nat):Int)=(key.size:Int):=by have:=HF.out;omega
 simp[xm,Yo,Qw,Yr,Uq,be0,hks']
set_option maxRecDepth 100000 in
theorem zur (node zvw zvx zvy zvz code:Int) (key:ByteArray) (W:World) (hm:ua ⟨4,node,zvw,zvx,zvy,zvz,key,code⟩=true) :
  Calls Tryz.prog 14 #[zp ⟨4,node,zvw,zvx,zvy,zvz,key,code⟩] W fun e w'=>∃v,e = .returned v∧w'.ownsRow W.heap.size 5 1 v (xm ⟨4,node,zvw,zvx,zvy,zvz,key,code⟩).length (zu (xm ⟨4,node,zvw,zvx,zvy,zvz,key,code⟩))∧W.grownBy w' none:=by
 have HF:Hid (0≤node∧node<255∧0≤zvw∧zvw≤65535∧0≤zvx∧zvx≤4611686018427387904∧0≤zvy∧zvy≤4611686018427387904∧0≤zvz∧zvz≤4611686018427387904∧0≤code∧code≤65535∧key.size≤64):=(show _∧_ from ux hm)
 have hks:((key.size:Int)%256)=(key.size:Int):=by have:=HF.out;omega
 clear hm;obtain⟨i0,hi,hz0,hz1,hz2⟩:=info_parts Zr;have P0:=za (BSt.start' W (.cells #[.int .u8 4,.int .i64 node,.int .i64 zvw,.int .i64 zvx,.int .i64 zvy,.int .i64 zvz,.string key,.int .i64 code] 29) 4);obtain⟨d0,d1,d2,d3,d4,d5,d6,d7⟩:=P0.out.cells;simp only[zp]
 go_enter Tryz.func14,Tryz.ntmps14
 go_wp2_with (first
  | (go_at_call 54;have K:=P0.out;refine(ja _ 2 (by omega) (by omega) (by have:=HF.out;omega) (by have:=HF.out;omega) _ 2 rfl).mono ?_;clear d0 d1 d2 d3 d4 d5 d6 d7;rintro e w1 ⟨y,rfl,hy,hg⟩;have Q0:=za (BSt.grow K hg);clear K P0;obtain⟨d0,d1,d2,d3,d4,d5,d6,d7⟩:=Q0.out.cells;have Y:=za hy;clear hy hg;simp only[])
  | (at_builtin;have K:=Q0.out;refine yy _ rfl _ _ 25 5 rfl i0 Tryz.underlying25 hi hz0 hz1 hz2 _ _ _ _ rfl K.row _ _ rfl Y.out (by have:=HF.out;simp[yn,zy] <;> omega) (by have:=K.grown.size;omega) ?_;intro v' w2 ho hg hat;have P1:=za (BSt.app K ho hg);clear K Q0 Y ho hg hat;clear d0 d1 d2 d3 d4 d5 d6 d7;obtain⟨d0,d1,d2,d3,d4,d5,d6,d7⟩:=P1.out.cells)
  | (go_at_call 54;have K:=P1.out;refine(ja _ 8 (by omega) (by omega) (by have:=HF.out;omega) (by have:=HF.out;omega) _ 8 rfl).mono ?_;clear d0 d1 d2 d3 d4 d5 d6 d7;rintro e w1 ⟨y,rfl,hy,hg⟩;have Q1:=za (BSt.grow K hg);clear K P1;obtain⟨d0,d1,d2,d3,d4,d5,d6,d7⟩:=Q1.out.cells;have Y:=za hy;clear hy hg;simp only[])
  | (at_builtin;have K:=Q1.out;refine yy _ rfl _ _ 25 5 rfl i0 Tryz.underlying25 hi hz0 hz1 hz2 _ _ _ _ rfl K.row _ _ rfl Y.out (by have:=HF.out;simp[yn,zy] <;> omega) (by have:=K.grown.size;omega) ?_;intro v' w2 ho hg hat;have P2:=za (BSt.app K ho hg);clear K Q1 Y ho hg hat;clear d0 d1 d2 d3 d4 d5 d6 d7;obtain⟨d0,d1,d2,d3,d4,d5,d6,d7⟩:=P2.out.cells)
  | (at_builtin;have K:=BSt.grow P2.out (zc _ (.cells #[.int .u8 (key.size:Int)] 5) none);refine yy _ rfl _ _ 25 5 rfl i0 Tryz.underlying25 hi hz0 hz1 hz2 _ _ _ _ rfl K.row _ _ rfl (zdp _ _) (by have:=HF.out;simp[yn,zy] <;> omega) (by have:=K.grown.size;omega) ?_;intro v' w2 ho hg hat;have P3:=za (BSt.app K ho hg);clear K P2 ho hg hat;clear d0 d1 d2 d3 d4 d5 d6 d7;obtain⟨d0,d1,d2,d3,d4,d5,d6,d7⟩:=P3.out.cells)
  | (at_builtin;have K:=P3.out;refine Lib.wpList_append_own_string _ rfl _ _ 25 9 rfl _ 5 i0 Tryz.underlying25 Tryz.underlying9 hi hz0 hz1 hz2 _ _ _ rfl K.row _ rfl (by have:=HF.out;unfold maxLen;simp[yn,zy] <;> omega) (by have:=HF.out;simp[yn,zy] <;> omega) (by have:=K.grown.size;omega) ?_;intro v' w2 ho hg hat;have P4:=za (BSt.appS K key ho hg);clear K P3 ho hg hat;clear d0 d1 d2 d3 d4 d5 d6 d7;obtain⟨d0,d1,d2,d3,d4,d5,d6,d7⟩:=P4.out.cells)
  | (go_at_call 54;have K:=P4.out;refine(ja _ 8 (by omega) (by omega) (by have:=HF.out;omega) (by have:=HF.out;omega) _ 8 rfl).mono ?_;clear d0 d1 d2 d3 d4 d5 d6 d7;rintro e w1 ⟨y,rfl,hy,hg⟩;have Q4:=za (BSt.grow K hg);clear K P4;obtain⟨d0,d1,d2,d3,d4,d5,d6,d7⟩:=Q4.out.cells;have Y:=za hy;clear hy hg;simp only[])
  | (at_builtin;have K:=Q4.out;refine yy _ rfl _ _ 25 5 rfl i0 Tryz.underlying25 hi hz0 hz1 hz2 _ _ _ _ rfl K.row _ _ rfl Y.out (by have:=HF.out;simp[yn,zy] <;> omega) (by have:=K.grown.size;omega) ?_;intro v' w2 ho hg hat;have P5:=za (BSt.app K ho hg);clear K Q4 Y ho hg hat;clear d0 d1 d2 d3 d4 d5 d6 d7;obtain⟨d0,d1,d2,d3,d4,d5,d6,d7⟩:=P5.out.cells))
 go_ret
 refine zcw P5.out ?_;have hks':((key.size%256:Nat):Int)=(key.size:Int):=by have:=HF.out;omega
 simp[xm,Yo,Qw,Yr,Uq,be0,hks']
set_option maxRecDepth 100000 in
theorem zus (node zvw zvx zvy zvz code:Int) (key:ByteArray) (W:World) (hm:ua ⟨5,node,zvw,zvx,zvy,zvz,key,code⟩=true) :
  Calls Tryz.prog 14 #[zp ⟨5,node,zvw,zvx,zvy,zvz,key,code⟩] W fun e w'=>∃v,e = .returned v∧w'.ownsRow W.heap.size 5 1 v (xm ⟨5,node,zvw,zvx,zvy,zvz,key,code⟩).length (zu (xm ⟨5,node,zvw,zvx,zvy,zvz,key,code⟩))∧W.grownBy w' none:=by
 have HF:Hid (0≤node∧node<255∧0≤zvw∧zvw≤65535∧0≤zvx∧zvx≤4611686018427387904∧0≤zvy∧zvy≤4611686018427387904∧0≤zvz∧zvz≤4611686018427387904∧0≤code∧code≤65535∧key.size≤64):=(show _∧_ from ux hm)
 have hks:((key.size:Int)%256)=(key.size:Int):=by have:=HF.out;omega
 clear hm;obtain⟨i0,hi,hz0,hz1,hz2⟩:=info_parts Zr;have P0:=za (BSt.start' W (.cells #[.int .u8 5,.int .i64 node,.int .i64 zvw,.int .i64 zvx,.int .i64 zvy,.int .i64 zvz,.string key,.int .i64 code] 29) 5);obtain⟨d0,d1,d2,d3,d4,d5,d6,d7⟩:=P0.out.cells;simp only[zp]
 go_enter Tryz.func14,Tryz.ntmps14
 go_wp2_with (first
  | (go_at_call 54;have K:=P0.out;refine(ja _ 2 (by omega) (by omega) (by have:=HF.out;omega) (by have:=HF.out;omega) _ 2 rfl).mono ?_;clear d0 d1 d2 d3 d4 d5 d6 d7;rintro e w1 ⟨y,rfl,hy,hg⟩;have Q0:=za (BSt.grow K hg);clear K P0;obtain⟨d0,d1,d2,d3,d4,d5,d6,d7⟩:=Q0.out.cells;have Y:=za hy;clear hy hg;simp only[])
  | (at_builtin;have K:=Q0.out;refine yy _ rfl _ _ 25 5 rfl i0 Tryz.underlying25 hi hz0 hz1 hz2 _ _ _ _ rfl K.row _ _ rfl Y.out (by have:=HF.out;simp[yn,zy] <;> omega) (by have:=K.grown.size;omega) ?_;intro v' w2 ho hg hat;have P1:=za (BSt.app K ho hg);clear K Q0 Y ho hg hat;clear d0 d1 d2 d3 d4 d5 d6 d7;obtain⟨d0,d1,d2,d3,d4,d5,d6,d7⟩:=P1.out.cells)
  | (go_at_call 54;have K:=P1.out;refine(ja _ 8 (by omega) (by omega) (by have:=HF.out;omega) (by have:=HF.out;omega) _ 8 rfl).mono ?_;clear d0 d1 d2 d3 d4 d5 d6 d7;rintro e w1 ⟨y,rfl,hy,hg⟩;have Q1:=za (BSt.grow K hg);clear K P1;obtain⟨d0,d1,d2,d3,d4,d5,d6,d7⟩:=Q1.out.cells;have Y:=za hy;clear hy hg;simp only[])
  | (at_builtin;have K:=Q1.out;refine yy _ rfl _ _ 25 5 rfl i0 Tryz.underlying25 hi hz0 hz1 hz2 _ _ _ _ rfl K.row _ _ rfl Y.out (by have:=HF.out;simp[yn,zy] <;> omega) (by have:=K.grown.size;omega) ?_;intro v' w2 ho hg hat;have P2:=za (BSt.app K ho hg);clear K Q1 Y ho hg hat;clear d0 d1 d2 d3 d4 d5 d6 d7;obtain⟨d0,d1,d2,d3,d4,d5,d6,d7⟩:=P2.out.cells)
  | (at_builtin;have K:=BSt.grow P2.out (zc _ (.cells #[.int .u8 (key.size:Int)] 5) none);refine yy _ rfl _ _ 25 5 rfl i0 Tryz.underlying25 hi hz0 hz1 hz2 _ _ _ _ rfl K.row _ _ rfl (zdp _ _) (by have:=HF.out;simp[yn,zy] <;> omega) (by have:=K.grown.size;omega) ?_;intro v' w2 ho hg hat;have P3:=za (BSt.app K ho hg);clear K P2 ho hg hat;clear d0 d1 d2 d3 d4 d5 d6 d7;obtain⟨d0,d1,d2,d3,d4,d5,d6,d7⟩:=P3.out.cells)
  | (at_builtin;have K:=P3.out;refine Lib.wpList_append_own_string _ rfl _ _ 25 9 rfl _ 5 i0 Tryz.underlying25 Tryz.underlying9 hi hz0 hz1 hz2 _ _ _ rfl K.row _ rfl (by have:=HF.out;unfold maxLen;simp[yn,zy] <;> omega) (by have:=HF.out;simp[yn,zy] <;> omega) (by have:=K.grown.size;omega) ?_;intro v' w2 ho hg hat;have P4:=za (BSt.appS K key ho hg);clear K P3 ho hg hat;clear d0 d1 d2 d3 d4 d5 d6 d7;obtain⟨d0,d1,d2,d3,d4,d5,d6,d7⟩:=P4.out.cells)
  | (go_at_call 54;have K:=P4.out;refine(ja _ 8 (by omega) (by omega) (by have:=HF.out;omega) (by have:=HF.out;omega) _ 8 rfl).mono ?_;clear d0 d1 d2 d3 d4 d5 d6 d7;rintro e w1 ⟨y,rfl,hy,hg⟩;have Q4:=za (BSt.grow K hg);clear K P4;obtain⟨d0,d1,d2,d3,d4,d5,d6,d7⟩:=Q4.out.cells;have Y:=za hy;clear hy hg;simp only[])
  | (at_builtin;have K:=Q4.out;refine yy _ rfl _ _ 25 5 rfl i0 Tryz.underlying25 hi hz0 hz1 hz2 _ _ _ _ rfl K.row _ _ rfl Y.out (by have:=HF.out;simp[yn,zy] <;> omega) (by have:=K.grown.size;omega) ?_;intro v' w2 ho hg hat;have P5:=za (BSt.app K ho hg);clear K Q4 Y ho hg hat;clear d0 d1 d2 d3 d4 d5 d6 d7;obtain⟨d0,d1,d2,d3,d4,d5,d6,d7⟩:=P5.out.cells))
 go_ret
 refine zcw P5.out ?_;have hks':((key.size%256:Nat):Int)=(key.size:Int):=by have:=HF.out;omega
 simp[xm,Yo,Qw,Yr,Uq,be0,hks']
set_option maxRecDepth 100000 in
theorem zut (node zvw zvx zvy zvz code:Int) (key:ByteArray) (W:World) (hm:ua ⟨6,node,zvw,zvx,zvy,zvz,key,code⟩=true) :
  Calls Tryz.prog 14 #[zp ⟨6,node,zvw,zvx,zvy,zvz,key,code⟩] W fun e w'=>∃v,e = .returned v∧w'.ownsRow W.heap.size 5 1 v (xm ⟨6,node,zvw,zvx,zvy,zvz,key,code⟩).length (zu (xm ⟨6,node,zvw,zvx,zvy,zvz,key,code⟩))∧W.grownBy w' none:=by
 have HF:Hid (0≤node∧node<255∧0≤zvw∧zvw≤65535∧0≤zvx∧zvx≤4611686018427387904∧0≤zvy∧zvy≤4611686018427387904∧0≤zvz∧zvz≤4611686018427387904∧0≤code∧code≤65535∧key.size≤64):=(show _∧_ from ux hm)
 have hks:((key.size:Int)%256)=(key.size:Int):=by have:=HF.out;omega
 clear hm;obtain⟨i0,hi,hz0,hz1,hz2⟩:=info_parts Zr;have P0:=za (BSt.start' W (.cells #[.int .u8 6,.int .i64 node,.int .i64 zvw,.int .i64 zvx,.int .i64 zvy,.int .i64 zvz,.string key,.int .i64 code] 29) 6);obtain⟨d0,d1,d2,d3,d4,d5,d6,d7⟩:=P0.out.cells;simp only[zp]
 go_enter Tryz.func14,Tryz.ntmps14
 go_wp2_with (first
  | (go_at_call 54;have K:=P0.out;refine(ja _ 2 (by omega) (by omega) (by have:=HF.out;omega) (by have:=HF.out;omega) _ 2 rfl).mono ?_;clear d0 d1 d2 d3 d4 d5 d6 d7;rintro e w1 ⟨y,rfl,hy,hg⟩;have Q0:=za (BSt.grow K hg);clear K P0;obtain⟨d0,d1,d2,d3,d4,d5,d6,d7⟩:=Q0.out.cells;have Y:=za hy;clear hy hg;simp only[])
  | (at_builtin;have K:=Q0.out;refine yy _ rfl _ _ 25 5 rfl i0 Tryz.underlying25 hi hz0 hz1 hz2 _ _ _ _ rfl K.row _ _ rfl Y.out (by have:=HF.out;simp[yn,zy] <;> omega) (by have:=K.grown.size;omega) ?_;intro v' w2 ho hg hat;have P1:=za (BSt.app K ho hg);clear K Q0 Y ho hg hat;clear d0 d1 d2 d3 d4 d5 d6 d7;obtain⟨d0,d1,d2,d3,d4,d5,d6,d7⟩:=P1.out.cells)
  | (go_at_call 54;have K:=P1.out;refine(ja _ 8 (by omega) (by omega) (by have:=HF.out;omega) (by have:=HF.out;omega) _ 8 rfl).mono ?_;clear d0 d1 d2 d3 d4 d5 d6 d7;rintro e w1 ⟨y,rfl,hy,hg⟩;have Q1:=za (BSt.grow K hg);clear K P1;obtain⟨d0,d1,d2,d3,d4,d5,d6,d7⟩:=Q1.out.cells;have Y:=za hy;clear hy hg;simp only[])
  | (at_builtin;have K:=Q1.out;refine yy _ rfl _ _ 25 5 rfl i0 Tryz.underlying25 hi hz0 hz1 hz2 _ _ _ _ rfl K.row _ _ rfl Y.out (by have:=HF.out;simp[yn,zy] <;> omega) (by have:=K.grown.size;omega) ?_;intro v' w2 ho hg hat;have P2:=za (BSt.app K ho hg);clear K Q1 Y ho hg hat;clear d0 d1 d2 d3 d4 d5 d6 d7;obtain⟨d0,d1,d2,d3,d4,d5,d6,d7⟩:=P2.out.cells)
  | (at_builtin;have K:=BSt.grow P2.out (zc _ (.cells #[.int .u8 (key.size:Int)] 5) none);refine yy _ rfl _ _ 25 5 rfl i0 Tryz.underlying25 hi hz0 hz1 hz2 _ _ _ _ rfl K.row _ _ rfl (zdp _ _) (by have:=HF.out;simp[yn,zy] <;> omega) (by have:=K.grown.size;omega) ?_;intro v' w2 ho hg hat;have P3:=za (BSt.app K ho hg);clear K P2 ho hg hat;clear d0 d1 d2 d3 d4 d5 d6 d7;obtain⟨d0,d1,d2,d3,d4,d5,d6,d7⟩:=P3.out.cells)
  | (at_builtin;have K:=P3.out;refine Lib.wpList_append_own_string _ rfl _ _ 25 9 rfl _ 5 i0 Tryz.underlying25 Tryz.underlying9 hi hz0 hz1 hz2 _ _ _ rfl K.row _ rfl (by have:=HF.out;unfold maxLen;simp[yn,zy] <;> omega) (by have:=HF.out;simp[yn,zy] <;> omega) (by have:=K.grown.size;omega) ?_;intro v' w2 ho hg hat;have P4:=za (BSt.appS K key ho hg);clear K P3 ho hg hat;clear d0 d1 d2 d3 d4 d5 d6 d7;obtain⟨d0,d1,d2,d3,d4,d5,d6,d7⟩:=P4.out.cells))
 go_ret
 refine zcw P4.out ?_;have hks':((key.size%256:Nat):Int)=(key.size:Int):=by have:=HF.out;omega
 simp[xm,Yo,Qw,Yr,Uq,be0,hks']
set_option maxRecDepth 100000 in
theorem zuu (node zvw zvx zvy zvz code:Int) (key:ByteArray) (W:World) (hm:ua ⟨7,node,zvw,zvx,zvy,zvz,key,code⟩=true) :
  Calls Tryz.prog 14 #[zp ⟨7,node,zvw,zvx,zvy,zvz,key,code⟩] W fun e w'=>∃v,e = .returned v∧w'.ownsRow W.heap.size 5 1 v (xm ⟨7,node,zvw,zvx,zvy,zvz,key,code⟩).length (zu (xm ⟨7,node,zvw,zvx,zvy,zvz,key,code⟩))∧W.grownBy w' none:=by
 have HF:Hid (0≤node∧node<255∧0≤zvw∧zvw≤65535∧0≤zvx∧zvx≤4611686018427387904∧0≤zvy∧zvy≤4611686018427387904∧0≤zvz∧zvz≤4611686018427387904∧0≤code∧code≤65535∧key.size≤64):=(show _∧_ from ux hm)
 have hks:((key.size:Int)%256)=(key.size:Int):=by have:=HF.out;omega
 clear hm;obtain⟨i0,hi,hz0,hz1,hz2⟩:=info_parts Zr;have P0:=za (BSt.start' W (.cells #[.int .u8 7,.int .i64 node,.int .i64 zvw,.int .i64 zvx,.int .i64 zvy,.int .i64 zvz,.string key,.int .i64 code] 29) 7);obtain⟨d0,d1,d2,d3,d4,d5,d6,d7⟩:=P0.out.cells;simp only[zp]
 go_enter Tryz.func14,Tryz.ntmps14
 go_wp2_with (first
  | (go_at_call 54;have K:=P0.out;refine(ja _ 2 (by omega) (by omega) (by have:=HF.out;omega) (by have:=HF.out;omega) _ 2 rfl).mono ?_;clear d0 d1 d2 d3 d4 d5 d6 d7;rintro e w1 ⟨y,rfl,hy,hg⟩;have Q0:=za (BSt.grow K hg);clear K P0;obtain⟨d0,d1,d2,d3,d4,d5,d6,d7⟩:=Q0.out.cells;have Y:=za hy;clear hy hg;simp only[])
  | (at_builtin;have K:=Q0.out;refine yy _ rfl _ _ 25 5 rfl i0 Tryz.underlying25 hi hz0 hz1 hz2 _ _ _ _ rfl K.row _ _ rfl Y.out (by have:=HF.out;simp[yn,zy] <;> omega) (by have:=K.grown.size;omega) ?_;intro v' w2 ho hg hat;have P1:=za (BSt.app K ho hg);clear K Q0 Y ho hg hat;clear d0 d1 d2 d3 d4 d5 d6 d7;obtain⟨d0,d1,d2,d3,d4,d5,d6,d7⟩:=P1.out.cells)
  | (go_at_call 54;have K:=P1.out;refine(ja _ 8 (by omega) (by omega) (by have:=HF.out;omega) (by have:=HF.out;omega) _ 8 rfl).mono ?_;clear d0 d1 d2 d3 d4 d5 d6 d7;rintro e w1 ⟨y,rfl,hy,hg⟩;have Q1:=za (BSt.grow K hg);clear K P1;obtain⟨d0,d1,d2,d3,d4,d5,d6,d7⟩:=Q1.out.cells;have Y:=za hy;clear hy hg;simp only[])
  | (at_builtin;have K:=Q1.out;refine yy _ rfl _ _ 25 5 rfl i0 Tryz.underlying25 hi hz0 hz1 hz2 _ _ _ _ rfl K.row _ _ rfl Y.out (by have:=HF.out;simp[yn,zy] <;> omega) (by have:=K.grown.size;omega) ?_;intro v' w2 ho hg hat;have P2:=za (BSt.app K ho hg);clear K Q1 Y ho hg hat;clear d0 d1 d2 d3 d4 d5 d6 d7;obtain⟨d0,d1,d2,d3,d4,d5,d6,d7⟩:=P2.out.cells)
  | (go_at_call 54;have K:=P2.out;refine(ja _ 2 (by omega) (by omega) (by have:=HF.out;omega) (by have:=HF.out;omega) _ 2 rfl).mono ?_;clear d0 d1 d2 d3 d4 d5 d6 d7;rintro e w1 ⟨y,rfl,hy,hg⟩;have Q2:=za (BSt.grow K hg);clear K P2;obtain⟨d0,d1,d2,d3,d4,d5,d6,d7⟩:=Q2.out.cells;have Y:=za hy;clear hy hg;simp only[])
  | (at_builtin;have K:=Q2.out;refine yy _ rfl _ _ 25 5 rfl i0 Tryz.underlying25 hi hz0 hz1 hz2 _ _ _ _ rfl K.row _ _ rfl Y.out (by have:=HF.out;simp[yn,zy] <;> omega) (by have:=K.grown.size;omega) ?_;intro v' w2 ho hg hat;have P3:=za (BSt.app K ho hg);clear K Q2 Y ho hg hat;clear d0 d1 d2 d3 d4 d5 d6 d7;obtain⟨d0,d1,d2,d3,d4,d5,d6,d7⟩:=P3.out.cells))
 go_ret
 refine zcw P3.out ?_;simp[xm,Yo,Qw,Yr,Uq,be0]
theorem zhg (c:Cmd) (W:World) (hm:ua c=true):Calls Tryz.prog 14 #[zp c] W fun e w'=>∃v,e = .returned v∧w'.ownsRow W.heap.size 5 1 v (xm c).length (zu (xm c))∧W.grownBy w' none:=by
 obtain⟨⟨k1,k7⟩,-⟩:=zdi hm;obtain⟨kind,node,zvw,zvx,zvy,zvz,key,code⟩:=c;simp only at k1 k7;have h:kind=1∨kind=2∨kind=3∨kind=4∨kind=5∨kind=6∨kind=7:=by omega
 rcases h with rfl|rfl|rfl|rfl|rfl|rfl|rfl
 ·exact zuo _ _ _ _ _ _ _ _ hm
 ·exact zup _ _ _ _ _ _ _ _ hm
 ·exact zuq _ _ _ _ _ _ _ _ hm
 ·exact zur _ _ _ _ _ _ _ _ hm
 ·exact zus _ _ _ _ _ _ _ _ hm
 ·exact zut _ _ _ _ _ _ _ _ hm
 ·exact zuu _ _ _ _ _ _ _ _ hm
end Go.Proofs.YtjfelfjobeeenaaGreat
