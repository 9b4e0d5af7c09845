/- TableKnown: the methods at a nil table; the document's bytes of any command; rows of literal commands. Conditions: none, or as the theorems say. -/
import Derived.Test.YtjfelfjobeeenaaGreatN17
import Derived.Test.YtjfelfjobeeenaaGreatN20
import Derived.Test.YtjfelfjobeeenaaGreatN32
namespace Go.Proofs.YtjfelfjobeeenaaGreat
set_option maxHeartbeats 200000000
set_option linter.unusedVariables false
set_option linter.unusedSimpArgs false
open Go.RowKit Go.Sf Go.Shelf
theorem nil_do (W:World):Calls Tryz.prog 22 #[.pointer none,.agg #[.int .u8 1,.int .i64 0,.int .i64 0,.int .i64 0,.int .i64 0,.int .i64 0,.string ⟨#[]⟩,.int .i64 0]] W fun e w'=>e = .returned (.int .i64 1)∧W.grownBy w' none:=by
 go_enter Tryz.func22,Tryz.ntmps22
 go_wp2
 go_ret
 exact⟨rfl,(by repeat (first|exact zd _|exact zc _ _ _|refine zi ?_ _|refine zg ?_ _|refine zf ?_))⟩
theorem zmw (W:World):Calls Tryz.prog 35 #[.pointer none] W fun e w'=>e = .returned (.int .i64 0)∧W.grownBy w' none:=by
 go_enter Tryz.func35,Tryz.ntmps35
 go_wp2
 go_ret
 exact⟨rfl,(by repeat (first|exact zd _|exact zc _ _ _|refine zi ?_ _|refine zg ?_ _|refine zf ?_))⟩
theorem zt9 (W:World):Calls Tryz.prog 31 #[.pointer none] W fun e w'=>e = .returned (.int .i64 0)∧W.grownBy w' none:=by
 go_enter Tryz.func31,Tryz.ntmps31
 go_wp2
 go_ret
 exact⟨rfl,(by repeat (first|exact zd _|exact zc _ _ _|refine zi ?_ _|refine zg ?_ _|refine zf ?_))⟩
theorem zmu (W:World):Calls Tryz.prog 23 #[.pointer none,.int .i64 0] W fun e w'=>e = .returned (.int .i64 0)∧W.grownBy w' none:=by
 go_enter Tryz.func23,Tryz.ntmps23
 go_wp2
 go_ret
 exact⟨rfl,(by repeat (first|exact zd _|exact zc _ _ _|refine zi ?_ _|refine zg ?_ _|refine zf ?_))⟩
theorem zt7 (W:World):Calls Tryz.prog 32 #[.pointer none,.int .i64 0] W fun e w'=>e = .returned (.agg #[.int .i64 0,.int .i64 0,.bool false,.int .i64 0])∧W.grownBy w' none:=by
 go_enter Tryz.func32,Tryz.ntmps32
 go_wp2;refine bodyPost_ret (v:=.agg #[.int .i64 0,.int .i64 0,.bool false,.int .i64 0]) (by simp[results,Tryz.results32,go_sem]) rfl ⟨rfl,?_⟩
 repeat (first|exact zd _|exact zc _ _ _|refine zi ?_ _|refine zg ?_ _|refine zf ?_)
theorem zt8 (W:World):Calls Tryz.prog 34 #[.pointer none,.string ⟨#[]⟩] W fun e w'=>e = .returned (.int .i64 0)∧W.grownBy w' none:=by
 go_enter Tryz.func34,Tryz.ntmps34
 go_wp2
 go_ret
 exact⟨rfl,(by repeat (first|exact zd _|exact zc _ _ _|refine zi ?_ _|refine zg ?_ _|refine zf ?_))⟩
theorem zo1 (W:World):Calls Tryz.prog 36 #[.pointer none,.agg #[.string ⟨#[]⟩,.int .i64 0]] W fun e w'=>e = .returned (.bool false)∧W.grownBy w' none:=by
 go_enter Tryz.func36,Tryz.ntmps36
 go_wp2
 go_ret
 exact⟨rfl,(by repeat (first|exact zd _|exact zc _ _ _|refine zi ?_ _|refine zg ?_ _|refine zf ?_))⟩
theorem zmx (W:World):Calls Tryz.prog 33 #[.pointer none] W fun e w'=>e = .returned (.slice none 0 0)∧W.grownBy w' none:=by
 go_enter Tryz.func33,Tryz.ntmps33
 go_wp2
 go_ret
 exact⟨rfl,(by repeat (first|exact zd _|exact zc _ _ _|refine zi ?_ _|refine zg ?_ _|refine zf ?_))⟩
theorem zms (W:World):Calls Tryz.prog 42 #[.pointer none] W fun e w'=>e = .returned (.slice none 0 0)∧W.grownBy w' none:=by
 go_enter Tryz.func42,Tryz.ntmps42
 go_wp2
 go_ret
 exact⟨rfl,(by repeat (first|exact zd _|exact zc _ _ _|refine zi ?_ _|refine zg ?_ _|refine zf ?_))⟩
theorem zmt (W:World):Calls Tryz.prog 37 #[.pointer none,.agg #[.string ⟨#[]⟩,.int .i64 0]] W fun e w'=>e = .returned (.slice none 0 0)∧W.grownBy w' none:=by
 go_enter Tryz.func37,Tryz.ntmps37
 go_wp2
 go_ret
 exact⟨rfl,(by repeat (first|exact zd _|exact zc _ _ _|refine zi ?_ _|refine zg ?_ _|refine zf ?_))⟩
theorem zmv (W:World):Calls Tryz.prog 43 #[.pointer none,.int .i64 0] W fun e w'=>e = .returned (.slice none 0 0)∧W.grownBy w' none:=by
 go_enter Tryz.func43,Tryz.ntmps43
 go_wp2_with (go_at_call 23;refine(zmu _).mono ?_;rintro e w1 ⟨rfl,hg⟩;have HG:=za hg;clear hg)
 go_ret
 exact⟨rfl,ze (by repeat (first|exact zd _|exact zc _ _ _|refine zg ?_ _)) HG.out⟩
theorem zrr (W:World):Calls Tryz.prog 40 #[.pointer none] W fun e w'=>e = .returned (.slice none 0 0)∧W.grownBy w' none:=by
 go_enter Tryz.func40,Tryz.ntmps40
 go_wp2
 go_ret
 exact⟨rfl,(by repeat (first|exact zd _|exact zc _ _ _|refine zi ?_ _|refine zg ?_ _|refine zf ?_))⟩
structure BS (W:World) (v:Value) (l:List Int) (n:Nat) (w:World):Prop where
 st:BSt W v l w
 bl:BL l
 len:l.length≤n
theorem BS.grow {W w w':World} {v:Value} {l:List Int} {n:Nat} (h:BS W v l n w) (hg:w.grownBy w' none):BS W v l n w':=⟨h.st.grow hg,h.bl,h.len⟩
theorem BS.app {W w w':World} {v v':Value} {l m:List Int} {n k:Nat} (h:BS W v l n w) (hm:BL m) (hk:m.length≤k) (ho:w'.ownsRow W.heap.size 5 1 v' (l.length+m.length) (zu l++zu m)) (hg:w.grownBy w' v.ownBlock):BS W v' (l++m) (n+k) w':=
 ⟨h.st.app ho hg,h.bl.app hm,by rw[List.length_append];have:=h.len;omega⟩
theorem BS.appS {W w w':World} {v v':Value} {l:List Int} {n:Nat} (h:BS W v l n w) (s:ByteArray) (hs:s.size≤100) (ho:w'.ownsRow W.heap.size 5 1 v' (l.length+s.size) (zu l++Lib.strCells s)) (hg:w.grownBy w' v.ownBlock):BS W v' (l++qz s) (n+100) w':=
 ⟨h.st.appS s ho hg,h.bl.app (zav s),by rw[List.length_append,zy];have:=h.len;omega⟩
theorem zs5 (x kk:Int) (hk:kk=2∨kk=8) (W:World):Calls Tryz.prog 54 #[.int .u64 (x%18446744073709551616),.int .i64 kk] W fun e w'=>
  ∃(v:Value) (m:List Int),e = .returned v∧ji w' v m∧BL m∧m.length≤8∧W.grownBy w' none:=by
 have hx:((x%18446744073709551616).toNat:Int)=x%18446744073709551616:=by omega
 obtain⟨k,h1,h2,h3⟩:∃k:Nat,0<k∧k≤8∧kk=k:=by rcases hk with rfl|rfl;exact⟨2,by omega,by omega,rfl⟩;exact⟨8,by omega,by omega,rfl⟩
 have h:=zpw (x%18446744073709551616).toNat k h1 h2 (by omega) W kk h3
 rw[hx] at h
 exact h.mono fun e w' ⟨v,he,hr,hg⟩=>⟨v,_,he,hr,zaw _ _,by rw[yn];exact h2,hg⟩
set_option maxRecDepth 100000 in
theorem zm7 (kind node zvw zvx zvy zvz code:Int) (key:ByteArray) (hk:kind=0∨kind=1∨kind=2∨kind=3∨kind=4∨kind=5∨kind=6∨kind=7∨kind=8) (hs:key.size≤100) (W:World) :
  Calls Tryz.prog 14 #[zp ⟨kind,node,zvw,zvx,zvy,zvz,key,code⟩] W fun e w'=>∃(v:Value) (l:List Int),e = .returned v∧w'.ownsRow W.heap.size 5 1 v l.length (zu l)∧BL l∧l.length≤400∧W.grownBy w' none:=by
 have hks:((key.size:Int)%256)=(key.size:Int):=by omega
 have HS:=za hs;clear hs;obtain⟨i0,hi,hz0,hz1,hz2⟩:=info_parts Zr;have h01:0≤kind∧kind<256:=by omega
 have P:=za (show BS (W.alloc (.cells #[.int .u8 kind,.int .i64 node,.int .i64 zvw,.int .i64 zvx,.int .i64 zvy,.int .i64 zvz,.string key,.int .i64 code] 29)) (.slice (some ⟨W.heap.size+1,0,none⟩) 1 1) [kind] 1 ((W.alloc (.cells #[.int .u8 kind,.int .i64 node,.int .i64 zvw,.int .i64 zvx,.int .i64 zvy,.int .i64 zvz,.string key,.int .i64 code] 29)).alloc (.cells #[.int .u8 kind] 5)) from ⟨BSt.start' W _ kind,fun b hb=>by simp at hb;omega,by simp⟩)
 clear h01;simp only[zp]
 rcases hk with rfl|rfl|rfl|rfl|rfl|rfl|rfl|rfl|rfl
 all_goals
  obtain⟨d0,d1,d2,d3,d4,d5,d6,d7⟩:=P.out.st.cells
  go_enter Tryz.func14,Tryz.ntmps14
  go_wp2_with (first
   | (go_at_call 54;have K:=P.out;refine(zs5 _ _ (by first|exact Or.inl rfl|exact Or.inr rfl) _).mono ?_;clear d0 d1 d2 d3 d4 d5 d6 d7 P;rintro e w1 ⟨y,m,rfl,hy,hm,hm8,hg⟩;have X:=za (K.grow hg);clear K;obtain⟨d0,d1,d2,d3,d4,d5,d6,d7⟩:=X.out.st.cells;have Y:=za (And.intro hy (And.intro hm hm8));clear hy hm hm8 hg;simp only[])
   | (at_builtin;have K:=X.out;refine yy _ rfl _ _ 25 5 rfl i0 Tryz.underlying25 hi hz0 hz1 hz2 _ _ _ _ rfl K.st.row _ _ rfl Y.out.1 (by have:=K.len;have:=Y.out.2.2;omega) (by have:=K.st.grown.size;omega) ?_;intro v' w2 ho hg hat;have P:=za (K.app Y.out.2.1 Y.out.2.2 ho hg);clear K X Y ho hg hat;clear d0 d1 d2 d3 d4 d5 d6 d7;obtain⟨d0,d1,d2,d3,d4,d5,d6,d7⟩:=P.out.st.cells)
   | (at_builtin;have K:=P.out.grow (zc _ (.cells #[.int .u8 (key.size:Int)] 5) none);refine yy _ rfl _ _ 25 5 rfl i0 Tryz.underlying25 hi hz0 hz1 hz2 _ _ _ _ rfl K.st.row _ _ rfl (zdp _ _) (by have:=K.len;simp only[List.length_singleton];omega) (by have:=K.st.grown.size;omega) ?_;intro v' w2 ho hg hat;have X2:=za (K.app (k:=1) (fun b hb=>by have:=HS.out;simp at hb;omega) (by simp) ho hg);clear K P ho hg hat;clear d0 d1 d2 d3 d4 d5 d6 d7;obtain⟨d0,d1,d2,d3,d4,d5,d6,d7⟩:=X2.out.st.cells)
   | (at_builtin;have K:=X2.out;refine Lib.wpList_append_own_string _ rfl _ _ 25 9 rfl _ 5 i0 Tryz.underlying25 Tryz.underlying9 hi hz0 hz1 hz2 _ _ _ rfl K.st.row _ rfl (by have:=HS.out;have:=K.len;unfold maxLen;omega) (by have:=HS.out;have:=K.len;omega) (by have:=K.st.grown.size;omega) ?_;intro v' w2 ho hg hat;have P:=za (K.appS key HS.out ho hg);clear K X2 ho hg hat;clear d0 d1 d2 d3 d4 d5 d6 d7;obtain⟨d0,d1,d2,d3,d4,d5,d6,d7⟩:=P.out.st.cells))
  go_ret
  exact⟨_,_,rfl,Vk P.out.st.row (by simp),P.out.bl,by have:=P.out.len;omega,ze (zc W _ none) P.out.st.grown⟩
theorem Xk (c:Cmd):(xa c).length=8:=rfl
theorem zgj:∀(l:List Cmd) (i j:Nat),i<l.length→j<8→(l.flatMap xa)[i*8+j]? = (xa (l.getD i wkD))[j]?
 | [],i,j,h,_=>by simp at h
 | c :: r,0,j,h,hj=>by
  rw[List.flatMap_cons,List.getElem?_append_left (by rw[Xk];omega)]
  simp
 | c :: r,i+1,j,h,hj=>by
  rw[List.flatMap_cons,List.getElem?_append_right (by rw[Xk];omega),Xk,show(i+1)*8+j-8=i*8+j from by omega]
  simpa using zgj r i j (by simpa using h) hj
theorem row_lit {w:World} {g:Nat} {l:List Cmd} {t:TypeId} {fr:Nat × Nat} (hb:w.heap[g]? = some (.cells (l.flatMap xa).toArray t fr)) (hl:l.length≤1000) (hk:∀c∈l,c.key.size≤1000) (i:Nat) (hi:i≤l.length) :
  Xg w w.heap.size (.slice (some ⟨g,i*8,none⟩) (l.length-i) (l.length-i)) (l.drop i):=by
 refine⟨some ⟨g,i*8,none⟩,l.length-i,by rw[List.length_drop],by rw[List.length_drop];omega,fun c hc=>by have:=hk c (List.mem_of_mem_drop hc);omega,Or.inr ⟨g,i*8,rfl,yi hb,fun a ha j u hu=>?_⟩⟩
 rw[List.length_drop] at ha;have hj:j<8:=by
  rcases Nat.lt_or_ge j 8 with h|h
  ·exact h
  ·rw[List.getElem?_eq_none (by rw[Xk];exact h)] at hu;cases hu
 have e:(l.drop i).getD a wkD=l.getD (i+a) wkD:=by simp[List.getD_eq_getElem?_getD,List.getElem?_drop]
 rw[e,←zgj l (i+a) j (by omega) hj] at hu
 simp only[World.cell?,hb];rw[show i*8+a*8+j=(i+a)*8+j from by omega]
 simpa using hu
theorem zcn (w:World) (s:ByteArray) (k:Nat) (hk:k<s.size):(Lib.bytesWorld w 5 s).cell? ⟨w.heap.size,k,none⟩=some (.int .u8 ((qz s)[k]'(by rw[zy];exact hk)))∧(Lib.bytesWorld w 5 s).frozen? ⟨w.heap.size,k,none⟩=false:=by
 have hge:=grownCap_ge w s.size 0 5;have hcs:(Lib.bytesCells w 5 s).size=grownCap w s.size 0 5:=by
  have:s.data.size=s.size:=rfl;simp[Lib.bytesCells];omega
 refine⟨?_,?_⟩
 ·obtain⟨p0,c0,e0,hc0⟩:=(zbi w s).ex
  have hl:(qz s).length=s.size:=zy s;have hu:(zu (qz s))[k]? = some (.int .u8 ((qz s)[k]'(by rw[zy];exact hk))):=by simp[zu,hl,hk]
  rcases hc0 with h0|⟨ad,h1,h2⟩
  ·rw[h0] at hl;simp at hl;omega
  ·rw[h1] at e0
   obtain rfl:=(Option.some.injEq _ _).mp ((Value.slice.injEq _ _ _ _ _ _).mp e0 |>.1)
   have:=h2 k _ hu;rw[Addr.add_lit,Nat.zero_add] at this
   exact this
 ·have e:=Lib.bytesWorld_at_new w 5 s
  simp only[World.frozen?,e];simp;omega
theorem zll (w:World) (s:ByteArray) (hs:s.size≤1000000) (k:Nat) (hk:k<s.size) (z:Int) :
  uy ((Lib.bytesWorld w 5 s).setCell ⟨w.heap.size,k,none⟩ (.int .u8 z)).heap.size ((Lib.bytesWorld w 5 s).setCell ⟨w.heap.size,k,none⟩ (.int .u8 z)) (.slice (some ⟨w.heap.size,0,none⟩) s.size (grownCap w s.size 0 5)) ((qz s).set k z)∧w.grownBy ((Lib.bytesWorld w 5 s).setCell ⟨w.heap.size,k,none⟩ (.int .u8 z)) none:=by
 have hge:=grownCap_ge w s.size 0 5;have hcm:=grownCap_le_maxLen w s.size 0 5 (by unfold maxLen;omega)
 unfold maxLen at hcm;have hl:(qz s).length=s.size:=zy s;have hz:((Lib.bytesWorld w 5 s).setCell ⟨w.heap.size,k,none⟩ (.int .u8 z)).heap.size=w.heap.size+1:=by
  have:=Lib.bytesWorld_size w 5 s;simp[World.setCell,this]
 refine⟨⟨some ⟨w.heap.size,0,none⟩,_,by rw[List.length_set,hl],by rw[List.length_set,hl];exact hge,by omega,Or.inr ⟨_,rfl,by rw[hz];exact Nat.lt_succ_self _,fun j u hu=>?_⟩⟩,?_⟩
 ·have hj:j<s.size:=by
   rcases Nat.lt_or_ge j s.size with h|h
   ·exact h
   ·rw[List.getElem?_eq_none (by simp[zu,hl];exact h)] at hu;cases hu
  rw[Addr.add_lit,Nat.zero_add]
  by_cases hjk:j=k
  ·subst hjk
   have e:u = .int .u8 z:=by
    have hu':=hu;simp[zu,hl,hj] at hu'
    exact hu'.symm
   subst e;have h1:=qm (i:=j) (Lib.bytesWorld_at_new w 5 s) (.int .u8 z);have hcs:(Lib.bytesCells w 5 s).size=grownCap w s.size 0 5:=by
    have:s.data.size=s.size:=rfl;simp[Lib.bytesCells];omega
   have hjc:j<(Lib.bytesCells w 5 s).size:=by rw[hcs];omega
   simp only[World.cell?,h1];simp[hjc]
  ·have h1:=qm (i:=k) (Lib.bytesWorld_at_new w 5 s) (.int .u8 z)
   have h2:=(zcn w s j hj).1;have e:u = .int .u8 ((qz s)[j]'(by rw[hl];exact hj)):=by
    have hu':=hu;simp[zu,hl,hj,Ne.symm hjk] at hu'
    exact hu'.symm
   subst e;simp only[World.cell?,h1];simp only[World.cell?,Lib.bytesWorld_at_new] at h2;simpa[Array.getElem?_setIfInBounds,Ne.symm hjk] using h2
 ·exact⟨rfl,rfl,rfl,by rw[hz];omega,fun i hi _=>(Below.heap_setCell _ _ _ _ (by show i≠w.heap.size;omega)).trans (Lib.bytesWorld_at_old w 5 s i hi)⟩
theorem BL.set {l:List Int} (h:BL l) (k:Nat) {z:Int} (h0:0≤z) (h1:z<256):BL (l.set k z):=fun b hb=>by
 rcases List.mem_or_eq_of_mem_set hb with h2|h2
 ·exact h b h2
 ·omega
theorem Qq (A B:List Value) (x y:Value) (n:Nat) (h:A.length=n):(A++x :: B).toArray.setIfInBounds n y=((A ++ [y])++B).toArray:=by
 subst h;rw[List.setIfInBounds_toArray,List.set_append_right _ _ (Nat.le_refl _),Nat.sub_self];simp
theorem zin:∀(l:List Cmd) (k:Nat) (A B:List Value),A.length=k*8→B.length=l.length*8→
  Instr.fill (fun i=>some (i*8,8)) (A++B).toArray ((l.zipIdx k).map fun p=>(p.2,Value.agg (xa p.1).toArray))=some (A++l.flatMap xa).toArray
 | [],k,A,B,hA,hB=>by
  have:B = []:=List.length_eq_zero_iff.1 (by simpa using hB)
  subst this;simp[Instr.fill]
 | c :: r,k,A,B,hA,hB=>by
  obtain⟨b0,B0,rfl⟩:=List.exists_cons_of_length_pos (l:=B) (by rw[hB];simp)
  obtain⟨b1,B1,rfl⟩:=List.exists_cons_of_length_pos (l:=B0) (by simp at hB;omega)
  obtain⟨b2,B2,rfl⟩:=List.exists_cons_of_length_pos (l:=B1) (by simp at hB;omega)
  obtain⟨b3,B3,rfl⟩:=List.exists_cons_of_length_pos (l:=B2) (by simp at hB;omega)
  obtain⟨b4,B4,rfl⟩:=List.exists_cons_of_length_pos (l:=B3) (by simp at hB;omega)
  obtain⟨b5,B5,rfl⟩:=List.exists_cons_of_length_pos (l:=B4) (by simp at hB;omega)
  obtain⟨b6,B6,rfl⟩:=List.exists_cons_of_length_pos (l:=B5) (by simp at hB;omega)
  obtain⟨b7,B7,rfl⟩:=List.exists_cons_of_length_pos (l:=B6) (by simp at hB;omega)
  have ih:=zin r (k+1) (A++xa c) B7 (by rw[List.length_append,hA];show k*8+8=_;omega) (by simp at hB;omega)
  rw[List.zipIdx_cons,List.map_cons,Instr.fill];have e:Value.cells (.agg (xa c).toArray)=(xa c).toArray:=rfl;have es:(xa c).toArray.size=8:=rfl;have el:(A++b0 :: b1 :: b2 :: b3 :: b4 :: b5 :: b6 :: b7 :: B7).toArray.size=k*8+8+B7.length:=by simp[hA];omega
  simp only[e,es,el];rw[if_neg (by simp)]
  have ez:(xa c).toArray.zipIdx.toList = [(.int .u8 c.kind,0),(.int .i64 c.node,1),(.int .i64 c.zvw,2),(.int .i64 c.zvx,3),(.int .i64 c.zvy,4),(.int .i64 c.zvz,5),(.string c.key,6),(.int .i64 c.code,7)]:=rfl;rw[←Array.foldl_toList,ez];simp only[List.foldl_cons,List.foldl_nil,Nat.add_zero];rw[Qq A _ _ _ _ hA,Qq (A ++ [_]) _ _ _ _ (by simp[hA]),Qq _ _ _ _ (k*8+2) (by simp[hA]),Qq _ _ _ _ (k*8+3) (by simp[hA]),Qq _ _ _ _ (k*8+4) (by simp[hA]),Qq _ _ _ _ (k*8+5) (by simp[hA]),Qq _ _ _ _ (k*8+6) (by simp[hA]),Qq _ _ _ _ (k*8+7) (by simp[hA])]
  have e2:((((((((A ++ [.int .u8 c.kind]) ++ [.int .i64 c.node]) ++ [.int .i64 c.zvw]) ++ [.int .i64 c.zvx]) ++ [.int .i64 c.zvy]) ++ [.int .i64 c.zvz]) ++ [.string c.key]) ++ [.int .i64 c.code])=A++xa c:=by simp[xa]
  rw[e2,ih];simp
theorem zie (w:World) (l:List Cmd) (h0:0<l.length) (h1:l.length≤1000) (ps:Array (Nat × Value)) (hp:ps.toList=l.zipIdx.map fun p=>(p.2,Value.agg (xa p.1).toArray)) :
  (Instr.buildSlice 37 l.length ps).run Tryz.prog w = .ok (.slice (some ⟨w.heap.size,0,none⟩) l.length l.length) (w.alloc (.cells (l.flatMap xa).toArray 24)):=by
 have hu:∀w:World,(underlying 37).run Tryz.prog w = .ok (.slice 24) w:=fun _=>by kernel_rfl
 have hs:∀w:World,(sizeOf 24).run Tryz.prog w = .ok 8 w:=fun _=>by kernel_rfl
 have hz:∀w:World,(zeroValue 24).run Tryz.prog w = .ok (.agg #[.int .u8 0,.int .i64 0,.int .i64 0,.int .i64 0,.int .i64 0,.int .i64 0,.string ⟨#[]⟩,.int .i64 0]) w:=fun _=>by kernel_rfl
 unfold Instr.buildSlice;have hf:∀X:Array Value,X.size=l.length*8→Instr.fill (fun i=>some (i*8,8)) X ps.toList=some (l.flatMap xa).toArray:=fun X hX=>by
  have h:=zin l 0 [] X.toList rfl (by simpa using hX)
  rw[hp];simpa using h
 simp[hu,hs,hz,show ¬(2 ^ 24<l.length*8) by omega,show ¬(l.length*8=0) by omega,go_sem,Value.cells,hf,newRow,newObj]
 rfl
theorem zdy (w:World) {ops:Array Oper} {rest:List Oper} {o:Oper} {a:Act} {Q:Exit→Act→World→Prop} (hgd:o.guard=none) (l:List Cmd) (n:Nat) (hn:l.length=n) (h0:0<n) (h1:n≤1000) {ps:Array (Nat × Operand)} (hop:o.op = .buildSlice 37 n ps)
  (hp:ps.toList.map (fun p=>(p.1,a.eval p.2))=l.zipIdx.map fun p=>(p.2,Value.agg (xa p.1).toArray))
  (k:∀C,C=(l.flatMap xa).toArray→wpList Tryz.prog ops Q rest (a.put o.dst (.slice (some ⟨w.heap.size,0,none⟩) n n)) (w.alloc (.cells C 24))):wpList Tryz.prog ops Q (o :: rest) a w:=by
 subst hn;have h:(execOp a.eval o).run Tryz.prog w = .ok (.value (.slice (some ⟨w.heap.size,0,none⟩) l.length l.length)) (w.alloc (.cells (l.flatMap xa).toArray 24)):=by
  have hb:=zie w l h0 h1 (ps.map fun p=>(p.1,a.eval p.2)) (by rw[Array.toList_map];exact hp)
  unfold execOp;rw[hop]
  change (do pure (Next.value (←Instr.buildSlice 37 l.length (ps.map fun p=>(p.1,a.eval p.2)))):Sem Next).run Tryz.prog w=_
  generalize Instr.buildSlice 37 l.length (ps.map fun p=>(p.1,a.eval p.2))=s at *
  simp[go_sem,hb]
 exact wpList_plain hgd fun K hK=>by simp only[Oper.wp,h,Oper.upon];exact hK _ _ (k _ rfl)
end Go.Proofs.YtjfelfjobeeenaaGreat
