/- Bytes told as a string. Conditions: as the theorems say. The chapter's example: walked. Conditions: none. The number of parts, of any int: the program's and the document's walked. Conditions: the argument is an int. starfishref02.Bytes: the walk. Conditions: at most 8 bytes. starfishref01.Sum, bit by bit, is the program's check: the walk. Conditions: a row of bytes in memory. starfishref01.Sum: the walk. Conditions: a row of bytes in memory. -/
import Derived.Test.YtbcbhlfjgobejaaGreatT25
import Derived.Lib.SlBytesConst
import Derived.Lib.AppendStr
import Derived.Deep.OwnRows
import Derived.Laws.OwnMore
set_option linter.unusedSimpArgs false
set_option linter.unusedVariables false
namespace Go.Proofs.YtbcbhlfjgobejaaGreat
open Go.RowKit Go.Sf
theorem conv_row {rb:Nat→Prop} {w:World} {v:Value} {l:List Int} (h:RowP rb w v (bytesV l)):(convert 32 9 v).run Tryz.prog w = .ok (.string (ofB l)) w:=by
 obtain⟨p,cap,rfl,-,-,hc⟩:=h
 rw[run_convert_bytes_string w _ _ 5 p _ cap Tryz.underlying32 Tryz.underlying5 Tryz.underlying9]
 rw[bytesV_len]
 cases p with
 | none=>
  have h0:l = []:=by
   rcases hc with h0|⟨a,h1,_⟩
   ·simpa[bytesV] using h0
   ·cases h1
  subst h0
  simp[Conv.bytesToString,ofB]
  rfl
 | some a=>
  have hl:(loadCells a l.length).run Tryz.prog w = .ok (l.map (Value.int .u8)).toArray w:=by
   have:=run_loadCells_list (P:=Tryz.prog) w a (l.map (Value.int .u8)) (fun j v hj=>by
    rcases hc with h0|⟨a',h1,_,h2⟩
    ·simp[bytesV] at h0;subst h0;simp at hj
    ·cases h1;exact h2 j v (by simpa[bytesV] using hj))
   simpa using this
  rw[run_bytesToString w a l.length cap l hl,push_list]
  simp[ofB,ByteArray.empty,ByteArray.emptyWithCapacity]
  rfl
theorem rowP_alloc2 {w:World} {b:List Int} {T:TypeId} {cap:Nat} (fz:Nat × Nat) (hb:b.length≤cap) (hc:cap≤9223372036854775807) (lo:Nat) (hlo:lo≤w.heap.size):RowP (fun k=>lo≤k∧k<(w.alloc (.cells (bytesV b).toArray T fz)).heap.size) (w.alloc (.cells (bytesV b).toArray T fz)) (.slice (some ⟨w.heap.size,0,none⟩) b.length cap) (bytesV b):=by
 refine⟨some ⟨w.heap.size,0,none⟩,cap,by rw[bytesV_len],by rw[bytesV_len];exact hb,hc,Or.inr ⟨_,rfl,⟨hlo,by simp⟩,fun j u hu=>?_⟩⟩
 rw[addr_at]
 exact(cell_block (heap_alloc_new w _) j).trans (by simpa using hu)
theorem NewRow.rowP {W w:World} {v:Value} {l:List Int} (h:NewRow W w v l) (hl:l.length≤9223372036854775807):RowP (fun k=>W.heap.size≤k∧k<w.heap.size) w v (bytesV l):=by
 rcases h.2 with ⟨rfl,h0⟩|⟨g,cap,cur,rfl,hg,hh,h1,h2,h3,h4⟩
 ·have:l = []:=List.length_eq_zero_iff.mp h0
  subst this
  exact⟨none,0,rfl,by simp[bytesV],by omega,Or.inl rfl⟩
 ·refine⟨some ⟨g,0,none⟩,cap,by rw[bytesV_len],by rw[bytesV_len];exact h1,h2,Or.inr ⟨_,rfl,⟨hg,?_⟩,fun j u hu=>?_⟩⟩
  ·rcases Nat.lt_or_ge g w.heap.size with h|h
   ·exact h
   ·rw[Array.getElem?_eq_none h] at hh;cases hh
  ·rw[addr_at]
   refine(cell_block hh j).trans ?_
   have hj:j<(bytesV l).length:=by
    rcases Nat.lt_or_ge j (bytesV l).length with h|h
    ·exact h
    ·rw[List.getElem?_eq_none h] at hu;cases hu
   rw[←h4,List.getElem?_take,if_pos (by rw[bytesV_len] at hj;omega)] at hu
   simpa using hu
def z500:List Int:=List.replicate 500 0
theorem z500_len:z500.length=500:=List.length_replicate
theorem z_BL (n:Nat):BL (List.replicate n 0):=fun b hb=>by have:=List.eq_of_mem_replicate hb;omega
structure Ex9 (d1 d2 d3 d4:Dk):Prop where
 n:d1.n=4∧d2.n=4∧d3.n=4∧d4.n=4
 late:d1.late = []∧d2.late = []∧d3.late = []∧d4.late = []
 p1:(S0 4).put [97,98]=(⟨d1,[(1,([97,98],[0]))],[true,false,false,false],2,0⟩,1,0)
 p2:Sto.put ⟨d1,[(1,([97,98],[0]))],[true,false,false,false],2,0⟩ z500=(⟨d2,[(1,([97,98],[0])),(2,(z500,[1,2,3]))],[true,true,true,true],3,0⟩,2,0)
 p3:Sto.put ⟨d2,[(1,([97,98],[0])),(2,(z500,[1,2,3]))],[true,true,true,true],3,0⟩ []=(⟨d2,[(1,([97,98],[0])),(2,(z500,[1,2,3]))],[true,true,true,true],3,0⟩,0,181)
 r:Sto.rem ⟨d2,[(1,([97,98],[0])),(2,(z500,[1,2,3]))],[true,true,true,true],3,0⟩ 2=(⟨d3,[(1,([97,98],[0]))],[true,false,false,false],3,0⟩,0)
 p4:Sto.put ⟨d3,[(1,([97,98],[0]))],[true,false,false,false],3,0⟩ []=(⟨d4,[(1,([97,98],[0])),(3,([],[1]))],[true,true,false,false],4,0⟩,3,0)
theorem ex9:∃d1 d2 d3 d4,Ex9 d1 d2 d3 d4:=by
 obtain⟨d1,s1,n1,l1,e1⟩:=put_ok (S:=S0 4) (steady_new 4) rfl (by decide) rfl (b:=[97,98]) (by decide) (by decide)
 have n1:d1.n=4:=n1
 obtain⟨d2,s2,n2,l2,e2⟩:=put_ok (S:=⟨d1,[(1,([97,98],[0]))],[true,false,false,false],2,0⟩) s1 rfl (by show(2:Int)≤_;decide) n1.symm (b:=z500) (by rw[z500_len];decide) (by
  have:partsN z500.length=3:=by rw[z500_len];rfl
  rw[this];show(freeP [true,false,false,false] 3 4).length=3;decide)
 have n2:d2.n=4:=n2.trans n1
 obtain⟨d3,s3,n3,l3,e3⟩:=rem_ok (S:=⟨d2,[(1,([97,98],[0])),(2,(z500,[1,2,3]))],[true,true,true,true],3,0⟩) s2 rfl (k:=2) (r:=(z500,[1,2,3])) rfl (by show 1<d2.n;omega)
 have n3:d3.n=4:=n3.trans n2
 obtain⟨d4,s4,n4,l4,e4⟩:=put_ok (S:=⟨d3,[(1,([97,98],[0]))],[true,false,false,false],3,0⟩) s3 rfl (by show(3:Int)≤_;decide) n3.symm (b:=[]) (by decide) (by show(freeP [true,false,false,false] 1 4).length=1;decide)
 have n4:d4.n=4:=n4.trans n3
 refine⟨d1,d2,d3,d4,⟨⟨n1,n2,n3,n4⟩,⟨l1,l2,l3,l4⟩,?_,?_,?_,?_,?_⟩⟩
 ·rw[e1];rfl
 ·rw[e2]
  have:partsN z500.length=3:=by rw[z500_len];rfl
  rw[this];rfl
 ·exact put_full rfl (by show(3:Int)≤_;decide) (by decide) (by show(freeP [true,true,true,true] 1 4).length<1;decide)
 ·rw[e3];rfl
 ·rw[e4];rfl
set_option maxRecDepth 100000 in
set_option maxHeartbeats 8000000 in
theorem works9_any (W:World):Calls Tryz.prog 17 #[] W fun e w'=>e = .returned (.bool true)∧W.grownBy w' none:=by
 have HN:=Lib.hid (dnew 4 W)
 obtain⟨d1,d2,d3,d4,HEX⟩:=ex9
 have HE:=Lib.hid HEX
 clear HEX
 have hmk:∀w:World,(Instr.makeSlice 32 (.int .i64 500) (.int .i64 500)).run Tryz.prog w=_:=run_mkBytes 500 (by omega)
 have hcv:=fun (w:World) (C:Array Value) (n c:Nat)=>Lib.run_convert_bytes_const (P:=Tryz.prog) w 32 5 C n c Tryz.underlying32 Tryz.underlying5
 go_enter Tryz.func17,Tryz.ntmps17
 go_upto_region 4 with (first
  | (go_at_call 19;refine HN.out.mono ?_;rintro e w1 ⟨db,rfl,hg1,-,hd1⟩;have HOP:=Lib.hid (open_new (W:=W) 4 hg1 hd1);clear hg1 hd1)
  | (go_at_call 18;refine HOP.out.mono ?_;rintro e w2 ⟨st,rfl,hst⟩;have HS:=Lib.hid hst;clear hst HOP))
 have HP1:Hid (∀w,w2.grownBy w none→∀v,RowP (fun k=>w2.heap.size≤k∧k<w.heap.size) w v (bytesV [97,98])→Calls Tryz.prog 20 #[.pointer (some ⟨st,0,none⟩),v] w fun e w'=>e = .returned (.tuple #[.int .i64 1,.int .i64 0])∧StSt W st ⟨d1,[(1,([97,98],[0]))],[true,false,false,false],2,0⟩ w'):=(show ∀w,_→∀v,_→Calls _ _ _ _ _ from fun w hg v hv=>by
  have:=HS.out.put hg hv (fun b hb=>by simp at hb;omega) (by decide) (by decide)
  rw[HE.out.p1] at this
  exact this)
 go_upto_region 5 with (go_at_call 20;refine(HP1.out _ (World.grownBy_alloc _ _ none) _ (rowP_alloc2 (b:=[97,98]) (cap:=2) _ (by decide) (by decide) _ (Nat.le_refl _))).mono ?_;rintro e w3 ⟨rfl,hst⟩;have HS1:=Lib.hid hst;clear hst)
 have HP2:Hid (∀w,w3.grownBy w none→∀v,RowP (fun k=>w3.heap.size≤k∧k<w.heap.size) w v (bytesV z500)→Calls Tryz.prog 20 #[.pointer (some ⟨st,0,none⟩),v] w fun e w'=>e = .returned (.tuple #[.int .i64 2,.int .i64 0])∧StSt W st ⟨d2,[(1,([97,98],[0])),(2,(z500,[1,2,3]))],[true,true,true,true],3,0⟩ w'):=(show ∀w,_→∀v,_→Calls _ _ _ _ _ from fun w hg v hv=>by
  have:=HS1.out.put hg hv (z_BL 500) (by rw[z500_len];decide) (by rw[HE.out.late.1];decide)
  rw[HE.out.p2] at this
  exact this)
 go_upto_region 6 with (go_at_call 20;refine(HP2.out _ (World.grownBy_alloc _ _ none) _ (rowP_alloc (b:=List.replicate 500 0) (cap:=500) (by rw[List.length_replicate];exact Nat.le_refl _) (by decide) _ (Nat.le_refl _))).mono ?_;rintro e w4 ⟨rfl,hst⟩;have HS2:=Lib.hid hst;clear hst)
 go_upto_region 7 with (go_at_call 22;refine HS2.out.free.mono ?_;rintro e w5 ⟨rfl,h5⟩;obtain rfl:w4=w5:=h5.symm)
 have HP3:Hid (∀w,w4.grownBy w none→∀v,RowP (fun k=>w4.heap.size≤k∧k<w.heap.size) w v (bytesV [])→Calls Tryz.prog 20 #[.pointer (some ⟨st,0,none⟩),v] w fun e w'=>e = .returned (.tuple #[.int .i64 0,.int .i64 181])∧StSt W st ⟨d2,[(1,([97,98],[0])),(2,(z500,[1,2,3]))],[true,true,true,true],3,0⟩ w'):=(show ∀w,_→∀v,_→Calls _ _ _ _ _ from fun w hg v hv=>by
  have:=HS2.out.put hg hv (fun b hb=>by simp at hb) (by decide) (by rw[HE.out.late.2.1];decide)
  rw[HE.out.p3] at this
  exact this)
 go_upto_region 8 with (go_at_call 20;refine(HP3.out _ (grown_refl _) _ (rowP_nil _ _)).mono ?_;rintro e w5 ⟨rfl,hst⟩;have HS3:=Lib.hid hst;clear hst)
 have HR4:Hid (Calls Tryz.prog 30 #[.pointer (some ⟨st,0,none⟩),.int .i64 2] w5 fun e w'=>e = .returned (.int .i64 0)∧StSt W st ⟨d3,[(1,([97,98],[0]))],[true,false,false,false],3,0⟩ w'):=(show Calls _ _ _ _ _ from by
  have:=HS3.out.rem 2 (by rw[HE.out.late.2.1];decide)
  rw[HE.out.r] at this
  exact this)
 go_upto_region 9 with (go_at_call 30;refine HR4.out.mono ?_;rintro e w6 ⟨rfl,hst⟩;have HS4:=Lib.hid hst;clear hst)
 go_upto_region 10 with (go_at_call 22;refine HS4.out.free.mono ?_;rintro e w7 ⟨rfl,h5⟩;obtain rfl:w6=w7:=h5.symm)
 have HP5:Hid (∀w,w6.grownBy w none→∀v,RowP (fun k=>w6.heap.size≤k∧k<w.heap.size) w v (bytesV [])→Calls Tryz.prog 20 #[.pointer (some ⟨st,0,none⟩),v] w fun e w'=>e = .returned (.tuple #[.int .i64 3,.int .i64 0])∧StSt W st ⟨d4,[(1,([97,98],[0])),(3,([],[1]))],[true,true,false,false],4,0⟩ w'):=(show ∀w,_→∀v,_→Calls _ _ _ _ _ from fun w hg v hv=>by
  have:=HS4.out.put hg hv (fun b hb=>by simp at hb) (by decide) (by rw[HE.out.late.2.2.1];decide)
  rw[HE.out.p4] at this
  exact this)
 go_upto_region 11 with (go_at_call 20;refine(HP5.out _ (grown_refl _) _ (rowP_nil _ _)).mono ?_;rintro e w7 ⟨rfl,hst⟩;have HS5:=Lib.hid hst;clear hst)
 have HG6:Hid (Calls Tryz.prog 21 #[.pointer (some ⟨st,0,none⟩),.int .i64 1] w7 fun e w'=>w7.grownBy w' none∧∃p c,e = .returned (.tuple #[.slice p 2 c,.bool true])∧NewRow w7 w' (.slice p 2 c) [97,98]):=(show Calls _ _ _ _ _ from by
  refine(HS5.out.get 1).mono ?_
  rintro e w' ⟨hg,v,rfl,⟨h0,-⟩|⟨r,h0,hr⟩⟩
  ·simp[mget] at h0
  ·simp[mget] at h0
   subst h0
   obtain⟨p,c,rfl⟩:∃p c,v = .slice p 2 c:=by
    rcases hr.2 with ⟨e,h0⟩|⟨g,c,cur,e,_⟩
    ·simp at h0
    ·exact⟨_,_,e⟩
   exact⟨hg,p,c,rfl,hr⟩)
 go_upto_region 12 with (go_at_call 21;refine HG6.out.mono ?_;rintro e w8 ⟨hg,p,c,rfl,hr⟩;have HG8:=Lib.hid hg;have HR8:=Lib.hid hr;clear hg hr)
 have hcz:(convert 32 9 (.slice p 2 c)).run Tryz.prog w8 = .ok (.string (ofB [97,98])) w8:=conv_row (HR8.out.rowP (by decide))
 have hez:((ofB [97,98]).toList == [97,98])=true:=by
  have e : ofB [97, 98] = "ab".toUTF8 := by rfl
  decide +kernel
 go_wp2
 go_ret
 exact⟨rfl,grown_trans HS5.out.gr HG8.out⟩
structure BPart (W:World) (base g n m:Nat) (tail:List Int) (w:World):Prop where
 row:w.ownsRow base 5 1 (.slice (some ⟨g,0,none⟩) n n) n (List.replicate m (.int .u8 0)++bytesV tail)
 grown:W.grownBy w none
 le:W.heap.size≤g
theorem BPart.step {W w:World} {base g n m:Nat} {tail:List Int} (h:BPart W base g n (m+1) tail w) (hn:m<n) (x:Int):BPart W base g n m (x :: tail) (w.setCell ⟨g,m,none⟩ (.int .u8 x)):=by
 have hs:=grown_set w g m (.int .u8 x)
 refine⟨?_,⟨hs.os.trans h.grown.os,hs.tape.trans h.grown.tape,hs.output.trans h.grown.output,Nat.le_trans h.grown.size hs.size,fun k hk _=>(hs.block k (Nat.lt_of_lt_of_le hk h.grown.size) (fun e=>by cases e;have:=h.le;omega)).trans (h.grown.block k hk (by simp))⟩,h.le⟩
 have hr:=row_set h.row m hn (.int .u8 x)
 have e1:List.replicate (m+1) (Value.int .u8 0)++bytesV tail=List.replicate m (Value.int .u8 0)++Value.int .u8 0 :: bytesV tail:=by
  rw[List.replicate_succ'];simp
 have e2:(List.replicate m (Value.int .u8 0)).length=m:=by simp
 rw[e1] at hr
 have e3:=set_mid (List.replicate m (Value.int .u8 0)) (.int .u8 0) (bytesV tail) (.int .u8 x)
 rw[e2] at e3
 rw[e3] at hr
 exact hr
theorem BPart.facts {W w:World} {base g n m:Nat} {tail:List Int} (h:BPart W base g n (m+1) tail w) (hn:m<n):(∃u,w.cell? ⟨g,m,none⟩=some u)∧w.frozen? ⟨g,m,none⟩=false:=by
 rcases h.row.2 with ⟨e1,_⟩|⟨b,c,cur,e1,_,hb,r1,r2,r3,r4⟩
 ·cases e1
 ·cases e1
  refine⟨⟨cur[m]'(by omega),?_⟩,?_⟩
  ·simp[World.cell?,hb]
  ·simp[World.frozen?,hb]
theorem bpart_start (W:World) (k:Nat) (hk:k≤1000):BPart W W.heap.size W.heap.size k k [] (W.alloc (.cells (madeCells #[.int .u8 0] k) 5)):=by
 have hl:=toList_madeCells_one (.int .u8 0) k
 have hs:(madeCells #[Value.int .u8 0] k).size=k:=by rw[←Array.length_toList,hl];simp
 refine⟨⟨by simp[bytesV],.inr ⟨W.heap.size,k,madeCells #[.int .u8 0] k,rfl,Nat.le_refl _,heap_alloc_new W _,Nat.le_refl _,by unfold maxLen;omega,by rw[hs];omega,?_⟩⟩,World.grownBy_alloc W _ none,Nat.le_refl _⟩
 rw[hl]
 simp[bytesV]
set_option maxHeartbeats 2000000 in
set_option maxRecDepth 100000 in
theorem bytes02 (N k:Nat) (hk0:0<k) (hk:k≤8) (hN:N<256 ^ 8) (W:World) (kk:Int) (hkk:kk=k):Calls Tryz.prog 98 #[.int .u64 N,.int .i64 kk] W fun e w'=>
  ∃v,e = .returned v∧RawRow w' v (be k N)∧W.grownBy w' none:=by
 subst hkk
 have hmk:=run_make_row' (P:=Tryz.prog) 32 5 (.int .u8 0) 1 Tryz.underlying32 infoU8 rfl .i64 .i64 k (by omega) (by omega)
 have HS:Hid (BPart W W.heap.size W.heap.size k k [] (W.alloc (.cells (madeCells #[.int .u8 0] k) 5))):=bpart_start W k (by omega)
 go_enter Tryz.func98,Tryz.ntmps98
 go_wp2
 go_loopw [0,6] (fun nv i wr=>∃(m nc:Nat) (tail:List Int),m≤k∧nv = .int .u64 nc∧nc<256 ^ 8∧i = .int .i64 ((k:Int)-m+1)∧be k N=be m nc++tail∧tail.length+m=k∧BPart W W.heap.size W.heap.size k m tail wr) (fun _ i _=>(k:Int).toNat+1-(intOf i).toNat)
 case atStart=>exact⟨k,N,[],Nat.le_refl _,rfl,hN,by congr 1;omega,by simp,by simp,HS.out⟩
 case round=>
  obtain⟨m,nc,tail,hm,rfl,hnc,rfl,hbe,htl,hp⟩:=hrel
  have HP:=Lib.hid hp
  clear hp
  cases m with
  | zero=>
   go_wp2
   go_ret
   have hbt:be k N=tail:=by simpa[be] using hbe
   refine⟨_,rfl,?_,HP.out.grown⟩
   have hr:=HP.out.row
   rw[hbt]
   have hl:tail.length=k:=by omega
   refine raw_of_row (base:=W.heap.size) ?_
   rw[hl]
   simpa using hr
  | succ m=>
   obtain⟨⟨u,c0⟩,f0⟩:=HP.out.facts (by omega)
   have he:k-(k-(m+1)+1)=m:=by omega
   have hlt:m<k:=by omega
   go_wp2
   refine⟨⟨m,nc / 256,((nc%256:Nat):Int) :: tail,by omega,by simp,Nat.lt_of_le_of_lt (Nat.div_le_self _ _) hnc,by congr 1;omega,by rw[hbe,be_eq];simp,by simp only[List.length_cons];omega,?_⟩,by simp[intOf];omega⟩
   have hnm:((nc%256:Nat):Int)=(nc:Int)%256:=rfl
   rw[hnm]
   exact HP.out.step hlt _
structure BSt (W:World) (v:Value) (l:List Int) (w:World):Prop where
 row:w.ownsRow W.heap.size 5 1 v l.length (bytesV l)
 grown:W.grownBy w none
theorem BSt.grow {W w w':World} {v:Value} {l:List Int} (h:BSt W v l w) (hg:w.grownBy w' none):BSt W v l w':=
 ⟨h.row.kept hg (by
  rcases h:v.ownBlock with _|k
  ·exact Or.inl rfl
  ·exact Or.inr (by simp)),grown_trans h.grown hg⟩
theorem BSt.app {W w w':World} {v v':Value} {l m:List Int} (h:BSt W v l w) (ho:w'.ownsRow W.heap.size 5 1 v' (l.length+m.length) (bytesV l++bytesV m)) (hg:w.grownBy w' v.ownBlock):BSt W v' (l++m) w':=
 ⟨by rw[List.length_append,←bytesV_app];exact ho,grown_row h.grown h.row (Nat.le_refl _) hg⟩
theorem BSt.start (W:World) (x:Int):BSt W (.slice (some ⟨W.heap.size,0,none⟩) 1 1) [x] (W.alloc (.cells #[.int .u8 x] 5)):=
 ⟨⟨rfl,.inr ⟨W.heap.size,1,#[.int .u8 x],rfl,Nat.le_refl _,heap_alloc_new W _,Nat.le_refl _,by unfold maxLen;omega,rfl,rfl⟩⟩,World.grownBy_alloc W _ none⟩
theorem raw_one (w:World) (x:Int):RawRow (w.alloc (.cells #[.int .u8 x] 5)) (.slice (some ⟨w.heap.size,0,none⟩) 1 1) [x]:=
 ⟨_,_,rfl,Or.inr ⟨_,rfl,cell_one_new w (.int .u8 x) _⟩⟩
theorem strCells_eq (s:ByteArray):Lib.strCells s=bytesV (strB s):=by
 simp[Lib.strCells,bytesV,strB,List.map_map]
 try rfl
theorem BSt.appS {W w w':World} {v v':Value} {l:List Int} (h:BSt W v l w) (s:ByteArray) (ho:w'.ownsRow W.heap.size 5 1 v' (l.length+s.size) (bytesV l++Lib.strCells s)) (hg:w.grownBy w' v.ownBlock):BSt W v' (l++strB s) w':=
 h.app (by rw[strCells_eq,←strB_len] at ho;exact ho) hg
theorem bytes02' (x:Int) (k:Nat) (hk0:0<k) (hk:k≤8) (h0:0≤x) (h1:x<9223372036854775808) (W:World) (kk:Int) (hkk:kk=k):Calls Tryz.prog 98 #[.int .u64 (x%18446744073709551616),.int .i64 kk] W fun e w'=>
  ∃v,e = .returned v∧RawRow w' v (be k x.toNat)∧W.grownBy w' none:=by
 have hx:(x.toNat:Int)=x%18446744073709551616:=by omega
 have h:=bytes02 x.toNat k hk0 hk (by omega) W kk hkk
 rw[hx] at h
 exact h
@[go_sem] theorem u32_geq31 (t:TypeId) (x:BitVec 32):binOp .geq t (u32V x) (.int .u32 2147483648)=pure (.bool x.msb):=by
 unfold u32V
 rw[binOp_geq]
 congr 2
 rw[BitVec.msb_eq_decide]
 have e:((x.toNat:Int)≥2147483648)=(2 ^ (32-1)≤x.toNat):=by
  apply propext
  omega
 simp only[e]
@[go_sem] theorem u32_mul2 (t:TypeId) (x:BitVec 32):binOp .mul t (u32V x) (.int .u32 2)=pure (u32V (x <<< 1)):=by
 unfold u32V
 rw[binOp_mul]
 have h:Op.intArith .mul .u32 (x.toNat:Int) 2=pure (.int .u32 (IntKind.u32.wrap ((x.toNat:Int)*2))):=rfl
 rw[h,BitVec.toNat_shiftLeft,Nat.shiftLeft_eq,IntKind.wrap_u32]
 simp
@[go_sem] theorem u32_addc (t:TypeId) (x:BitVec 32) (n:Int):binOp .add t (u32V x) (.int .u32 n)=pure (u32V (x+BitVec.ofInt 32 n)):=by
 unfold u32V
 rw[binOp_add]
 have h:Op.intArith .add .u32 (x.toNat:Int) n=pure (.int .u32 (IntKind.u32.wrap ((x.toNat:Int)+n))):=rfl
 rw[h,BitVec.toNat_add,IntKind.wrap_u32,BitVec.toNat_ofInt]
 congr 2
 omega
@[go_sem] theorem u8_shr (t:TypeId) (x:BitVec 8) (yk:IntKind) (n:Int) (h:0≤n) (h2:n<8):binOp .shr t (u8V x) (.int yk n)=pure (u8V (x >>> n.toNat)):=by
 unfold u8V
 rw[binOp_shr,shift_shr_any _ _ _ _ h]
 have e:min n.toNat IntKind.u8.bits=n.toNat:=by simp[IntKind.bits];omega
 rw[e,BitVec.toNat_ushiftRight,Nat.shiftRight_eq_div_pow]
 simp
@[go_sem] theorem u8_and (t:TypeId) (x:BitVec 8) (n:Int):binOp .and t (u8V x) (.int .u8 n)=pure (u8V (x &&& BitVec.ofInt 8 n)):=by
 unfold u8V
 rw[binOp_and]
 have h:Op.intBits .and .u8 (x.toNat:Int) n=pure (.int .u8 (IntKind.u8.wrap ((BitVec.ofInt 8 (x.toNat:Int) &&& BitVec.ofInt 8 n).toNat:Int))):=rfl
 have e:BitVec.ofInt 8 (x.toNat:Int)=x:=by simp
 rw[h,e,IntKind.wrap_u8]
 have:=(x &&& BitVec.ofInt 8 n).isLt
 congr 2
 omega
@[go_sem] theorem u8_eql (t:TypeId) (x:BitVec 8) (n:Int) (h:0≤n) (h2:n<256):binOp .eql t (u8V x) (.int .u8 n)=pure (.bool (x == BitVec.ofInt 8 n)):=by
 unfold u8V
 rw[binOp_eql]
 congr 2
 rw[Bool.eq_iff_iff,beq_iff_eq,beq_iff_eq]
 constructor
 ·intro h;rw[←h];simp
 ·rintro rfl
  rw[BitVec.toNat_ofInt]
  omega
@[go_sem] theorem u8_guard (t:TypeId) (x y:Operand) (a:BitVec 8) (n:Int):eqGuard .eql t x y (u8V a) (.int .u8 n)=pure ():=rfl
def bitsK (v:BitVec 32) (c:BitVec 8):Nat→BitVec 32
 | 0=>v
 | k+1=>bitIn (bitsK v c k) (c.getLsbD k)
theorem bitsK_8 (v:BitVec 32) (c:BitVec 8):bitsK v c 8=intoB v c.reverse:=by rw[into_bits];rfl
def outK (v:BitVec 32):Nat→BitVec 32
 | 0=>0#32
 | k+1=>if v.getLsbD (31-k)=true then outK v k else outK v k+1#32 <<< k
theorem outK_bit (v:BitVec 32):∀k,k≤32→∀j,j<32→(outK v k).getLsbD j=(decide (j<k) && !v.getLsbD (31-j))
 | 0,_,j,_=>by simp[outK]
 | k+1,hk,j,hj=>by
  have ih:=outK_bit v k (by omega)
  unfold outK
  by_cases hb:v.getLsbD (31-k)=true
  ·rw[if_pos hb,ih j hj]
   by_cases e:j=k
   ·subst e;simp[hb]
   ·have:decide (j<k+1)=decide (j<k):=by simp;omega
    rw[this]
  ·rw[if_neg hb]
   have hz:outK v k &&& 1#32 <<< k=0#32:=by
    apply BitVec.eq_of_getLsbD_eq
    intro i hi
    rw[BitVec.getLsbD_and,ih i hi,BitVec.getLsbD_shiftLeft,BitVec.getLsbD_one]
    by_cases e:i<k
    ·simp[e]
    ·have:decide (i<k)=false:=by simp;omega
     simp[this]
   rw[BitVec.add_eq_or_of_and_eq_zero _ _ hz,BitVec.getLsbD_or,ih j hj,BitVec.getLsbD_shiftLeft,BitVec.getLsbD_one]
   by_cases e:j=k
   ·subst e;simp[hb,hj]
   ·have:decide (j<k+1)=decide (j<k):=by simp;omega
    rw[this]
    by_cases e2:j<k
    ·simp[e2]
    ·have:(j-k=0)=False:=by simp;omega
     simp[e2,this]
theorem rev32_bit (x:BitVec 32) (j:Nat) (hj:j<32):(rev32 x).getLsbD j=x.getLsbD (31-j):=by
 unfold rev32
 simp only[BitVec.getLsbD_or,BitVec.getLsbD_and,BitVec.getLsbD_ushiftRight,BitVec.getLsbD_shiftLeft]
 rcases(show j=0∨j=1∨j=2∨j=3∨j=4∨j=5∨j=6∨j=7∨j=8∨j=9∨j=10∨j=11∨j=12∨j=13∨j=14∨j=15∨j=16∨j=17∨j=18∨j=19∨j=20∨j=21∨j=22∨j=23∨j=24∨j=25∨j=26∨j=27∨j=28∨j=29∨j=30∨j=31 by omega) with rfl|rfl|rfl|rfl|rfl|rfl|rfl|rfl|rfl|rfl|rfl|rfl|rfl|rfl|rfl|rfl|rfl|rfl|rfl|rfl|rfl|rfl|rfl|rfl|rfl|rfl|rfl|rfl|rfl|rfl|rfl|rfl
 all_goals simp
theorem outK_all (v:BitVec 32):outK v 32=rev32 (~~~ v):=by
 apply BitVec.eq_of_getLsbD_eq
 intro j hj
 have h31:31-j<32:=by omega
 rw[outK_bit v 32 (by omega) j hj,rev32_bit _ j hj,BitVec.getLsbD_not]
 simp[hj,h31]
theorem crcD_of:BitVec.ofInt 32 517762881=crcD:=by decide
theorem bit8_of (c:BitVec 8) (k:Nat) (hk:k<8):(c >>> k &&& 1#8 == 1#8)=c.getLsbD k:=by
 rw[Bool.eq_iff_iff,beq_iff_eq]
 constructor
 ·intro h
  have:=congrArg (fun z=>BitVec.getLsbD z 0) h
  simpa using this
 ·intro h
  apply BitVec.eq_of_getLsbD_eq
  intro i hi
  rw[BitVec.getLsbD_and,BitVec.getLsbD_ushiftRight,BitVec.getLsbD_one]
  rcases Nat.eq_zero_or_pos i with rfl|h0
  ·simp[h]
  ·have:(i=0)=False:=by simp;omega
   simp[this]
theorem bit32_of (v:BitVec 32) (k:Nat) (hk:k<32):(v >>> k &&& 1#32 == 0#32) = !v.getLsbD k:=by
 rw[Bool.eq_iff_iff,beq_iff_eq,Bool.not_eq_true']
 constructor
 ·intro h
  have:=congrArg (fun z=>BitVec.getLsbD z 0) h
  simpa using this
 ·intro h
  apply BitVec.eq_of_getLsbD_eq
  intro i hi
  rw[BitVec.getLsbD_and,BitVec.getLsbD_ushiftRight,BitVec.getLsbD_one]
  rcases Nat.eq_zero_or_pos i with rfl|h0
  ·simp[h]
  ·have:(i=0)=False:=by simp;omega
   simp[this]
@[go_sem] theorem u32_shr31 (t:TypeId) (x:BitVec 32) (yk:IntKind) (m:Nat) (h:m<32):binOp .shr t (u32V x) (.int yk (31-(m:Int)))=pure (u32V (x >>> (31-m))):=by
 rw[u32_shr _ _ _ _ (by omega) (by omega)]
 congr 3
 omega
theorem shl_of (i:Nat) (hi:i<32):BitVec.ofInt 32 (2 ^ i%4294967296)=1#32 <<< i:=by
 have:∀i:Fin 32,BitVec.ofInt 32 (2 ^ i.val%4294967296)=1#32 <<< i.val:=by decide
 exact this ⟨i,hi⟩
set_option maxHeartbeats 4000000 in
set_option maxRecDepth 100000 in
theorem rsum_any {W:World} {v:Value} {l:List Int} (h:RawRow W v l) (hb:BL l) (hl:l.length≤1000000) :
  Calls Tryz.prog 99 #[v] W fun e w'=>e = .returned (.int .u32 (crcB l))∧w'=W:=by
 obtain⟨p,cap,rfl,hc⟩:=h.ex
 have HC:=Lib.hid hc
 have HB:=Lib.hid hb
 obtain⟨n,hn⟩:∃n,n=l.length:=⟨_,rfl⟩
 rw[←hn]
 have HN:=Lib.hid hn
 rw[←hn] at hl
 clear h hb hn hc
 go_enter Tryz.func99,Tryz.ntmps99
 go_wp2
 go_loopw [3,4] (fun r i wr=>W=wr∧∃k:Nat,k≤n∧r=u32V (regB (l.take k))∧i = .int .i64 k) (fun _ i _=>n-(intOf i).toNat)
 case atStart=>exact⟨rfl,0,by omega,rfl,rfl⟩
 case round=>
  obtain⟨rfl,k,hk,rfl,rfl⟩:=hrel
  by_cases hkn:k<n
  ·have hkl:k<l.length:=by rw[←HN.out];exact hkn
   have hcell:∃a,p=some a∧W.cell? (a.add k)=some (u8V (BitVec.ofInt 8 l[k])):=by
    rcases HC.out with h0|⟨a,rfl,h1⟩
    ·rw[h0] at hkl;simp at hkl
    ·refine⟨a,rfl,h1 k _ ?_⟩
     have hbk:=HB.out l[k] (List.getElem_mem _)
     rw[bytesV,List.getElem?_map,List.getElem?_eq_getElem hkl,Option.map_some,u8V_of hbk.1 hbk.2]
   obtain⟨a,rfl,cell⟩:=hcell
   have HS:Hid (regB (l.take (k+1))=bitsK (regB (l.take k)) (BitVec.ofInt 8 l[k]) 8):=(show _=_ from by rw[List.take_succ_eq_append_getElem hkl,regB_snoc,bitsK_8])
   generalize BitVec.ofInt 8 l[k]=c at *
   go_wp2
   go_loopw [3,5] (fun r j wr=>W=wr∧∃m:Nat,m≤8∧r=u32V (bitsK (regB (l.take k)) c m)∧j = .int .i64 m) (fun _ j _=>8-(intOf j).toNat)
   case atStart=>exact⟨rfl,0,by omega,rfl,rfl⟩
   case round=>
    obtain⟨rfl,m,hm,rfl,rfl⟩:=hrel
    by_cases hm8:m<8
    ·have hbit:=bit8_of c m hm8
     have HM:Hid (bitsK (regB (l.take k)) c (m+1)=bitIn (bitsK (regB (l.take k)) c m) (c.getLsbD m)):=(show _=_ from rfl)
     have hcd:=crcD_of
     generalize hu:bitsK (regB (l.take k)) c m=u at *
     generalize c.getLsbD m=q at *
     cases hmb:u.msb <;> cases q
     ·have HM2:Hid (bitsK (regB (l.take k)) c (m+1)=u <<< 1):=(show _=_ from by rw[HM.out];unfold bitIn;rw[hmb];simp)
      clear HM hu
      go_wp2
      refine⟨⟨trivial,m+1,by omega,by rw[HM2.out];try rfl,rfl⟩,by simp[intOf];omega⟩
     ·have HM2:Hid (bitsK (regB (l.take k)) c (m+1)=u <<< 1 ^^^ crcD):=(show _=_ from by rw[HM.out];unfold bitIn;rw[hmb];simp)
      clear HM hu
      go_wp2
      refine⟨⟨trivial,m+1,by omega,by rw[HM2.out];try rfl,rfl⟩,by simp[intOf];omega⟩
     ·have HM2:Hid (bitsK (regB (l.take k)) c (m+1)=u <<< 1 ^^^ crcD):=(show _=_ from by rw[HM.out];unfold bitIn;rw[hmb];simp)
      clear HM hu
      go_wp2
      refine⟨⟨trivial,m+1,by omega,by rw[HM2.out];try rfl,rfl⟩,by simp[intOf];omega⟩
     ·have HM2:Hid (bitsK (regB (l.take k)) c (m+1)=u <<< 1):=(show _=_ from by rw[HM.out];unfold bitIn;rw[hmb];simp)
      clear HM hu
      go_wp2
      refine⟨⟨trivial,m+1,by omega,by rw[HM2.out];try rfl,rfl⟩,by simp[intOf];omega⟩
    ·obtain rfl:m=8:=by omega
     go_wp2
     refine⟨⟨trivial,k+1,by omega,by rw[HS.out],rfl⟩,by simp[intOf];omega⟩
  ·obtain rfl:k=n:=by omega
   have HE:Hid (l.take k=l):=(show _=_ from List.take_of_length_le (by rw[←HN.out];exact Nat.le_refl _))
   have HO:Hid (crcB l=(outK (regB l) 32).toNat):=(show _=_ from by rw[outK_all];rfl)
   rw[HE.out]
   generalize regB l=v at *
   go_wp2
   go_loopw [7,8] (fun r j wr=>W=wr∧∃m:Nat,m≤32∧r=u32V (outK v m)∧j = .int .i64 m) (fun _ j _=>32-(intOf j).toNat)
   case atStart=>exact⟨rfl,0,by omega,rfl,rfl⟩
   case round=>
    obtain⟨rfl,m,hm,rfl,rfl⟩:=hrel
    by_cases hm8:m<32
    ·have hbit:=bit32_of v (31-m) (by omega)
     have HM:Hid (outK v (m+1)=if v.getLsbD (31-m)=true then outK v m else outK v m+1#32 <<< m):=(show _=_ from rfl)
     have hsh:=Lib.hid (shl_of m hm8)
     generalize hu:outK v m=u at *
     generalize v.getLsbD (31-m)=q at *
     cases q
     ·have HM2:Hid (outK v (m+1)=u+1#32 <<< m):=(show _=_ from by rw[HM.out];simp)
      clear HM hu
      simp only[Bool.not_false] at hbit
      go_wp2
      refine⟨⟨trivial,m+1,by omega,by rw[HM2.out,←hsh.out],rfl⟩,by simp[intOf];omega⟩
     ·have HM2:Hid (outK v (m+1)=u):=(show _=_ from by rw[HM.out];simp)
      clear HM hu
      simp only[Bool.not_true] at hbit
      go_wp2
      refine⟨⟨trivial,m+1,by omega,by rw[HM2.out],rfl⟩,by simp[intOf];omega⟩
    ·obtain rfl:m=32:=by omega
     go_wp2
     go_ret
     exact⟨by rw[HO.out];rfl,rfl⟩
end Go.Proofs.YtbcbhlfjgobejaaGreat
