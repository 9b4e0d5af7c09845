/- law19's lies: both disks tell the same: the walk. Conditions: none, or as the theorems say. -/
import Derived.Test.YtbcbhlfjgobejaaGreatJ1
import Derived.Test.YtbcbhlfjgobejaaGreatJ34
import Derived.Test.YtbcbhlfjgobejaaGreatJ21
import Derived.Test.YtbcbhlfjgobejaaGreatJ33
set_option linter.unusedSimpArgs false
set_option linter.unusedVariables false
namespace Go.Proofs.YtbcbhlfjgobejaaGreat
set_option maxHeartbeats 200000000
open Go.RowKit Go.Sf Go.Shelf
section
variable {own rsd : Nat → Prop} {W : World} {db mb : Nat} {R : RDk} {d : Dk}
set_option maxRecDepth 100000 in
theorem zfx (hd:vj own W db d) (hr:R18 rsd W mb R) (hs:yx d R):Calls Tryz.prog 38 #[.pointer (some ⟨db,0,none⟩),.pointer (some ⟨mb,0,none⟩)] W fun e w'=>e = .returned (.bool true)∧W.grownBy w' none:=by
 have HD:=zd hd;have HR:=zd hr;have HS:=zd hs;have HB:=zd (fun w (h:W.grownBy w none)=>zee (HD.out.kept h))
 have HST:=zd (fun w (h:W.grownBy w none)=>dsteps (HD.out.kept h))
 have HO:=zd (fun w (h:W.grownBy w none)=>doff (HD.out.kept h))
 obtain⟨bv,bs,hA⟩:=hr;obtain⟨p,cap,rfl,-,-⟩:=hA.form;obtain⟨c0,c1,c2,c3,y⟩:=hA.cells;have hn4:=hA.n;have HN:Hid (R.blocks.length=d.n):=(show _=_ from hs.n)
 rw[←HN.out] at HB;rw[←hs.done] at HST;rw[←hs.gone] at HO;clear hd hs hA;obtain⟨n,hnn⟩:∃n,n=R.blocks.length:=⟨_,rfl⟩;have HNN:=zd hnn;rw[←hnn] at c0 hn4 HB;clear hnn
 go_enter Tryz.func38,Tryz.ntmps38
 go_upto_region 1 with fail
 have hg1:W.grownBy W.drew none:=zk (zj _);refine wp_region_held_drew (S:=fun w':World=>w'.cell? ⟨mb,0,none⟩=some (.slice p n cap)∧w'.cell? ⟨mb,1,none⟩=some (.int .i64 (wrap64 R.done))∧w'.cell? ⟨mb,3,none⟩=some (.bool R.gone)) (by kernel_rfl) ⟨c0,c1,c3⟩ (fun hHeld=>?_)
 refine tk (i:=0) (oi:=⟨some 10,Op.move (Operand.tmp 0),_,_,_,none⟩) (v:=?_) rfl hHeld ?_ ?_;rotate_left
 ·rintro w ⟨s1,s2,s3⟩;go_simp;try with_reducible rfl
 (try simp only[Act.put,za,zb,zc])
 refine tk (i:=2) (oi:=⟨some 12,Op.move (Operand.tmp 1),_,_,_,none⟩) (v:=?_) rfl hHeld ?_ ?_;rotate_left
 ·rintro w ⟨s1,s2,s3⟩;go_simp;try with_reducible rfl
 (try simp only[Act.put,za,zb,zc])
 refine tk (i:=3) (oi:=⟨some 13,Op.nilCheck (Operand.tmp 12),_,_,_,none⟩) (v:=?_) rfl hHeld ?_ ?_;rotate_left
 ·rintro w ⟨s1,s2,s3⟩;go_simp;try with_reducible rfl
 (try simp only[Act.put,za,zb,zc])
 refine tk (i:=4) (oi:=⟨some 14,Op.fieldAddr 185 (Operand.tmp 13) 0,_,_,_,none⟩) (v:=?_) rfl hHeld ?_ ?_;rotate_left
 ·rintro w ⟨s1,s2,s3⟩;go_simp;try with_reducible rfl
 (try simp only[Act.put,za,zb,zc])
 refine tk (i:=5) (oi:=⟨some 15,Op.load 183 (Operand.tmp 14),_,_,_,none⟩) (v:=?_) rfl hHeld ?_ ?_;rotate_left
 ·rintro w ⟨s1,s2,s3⟩;go_simp;try with_reducible rfl
 (try simp only[Act.put,za,zb,zc])
 refine tk (i:=6) (oi:=⟨some 16,Op.call { callee:=Callee.builtin Builtin.len,args:=#[Operand.tmp 15],argTypes:=#[183] },_,_,_,none⟩) (v:=?_) rfl hHeld ?_ ?_;rotate_left
 ·rintro w ⟨s1,s2,s3⟩;go_simp;try with_reducible rfl
 (try simp only[Act.put,za,zb,zc])
 refine wpAnyH_ready (rs:=[1]) (by kernel_rfl) (by simp) ?_
 refine AllReadyH.cons (o:=⟨some 11,Op.call { callee:=Callee.value (Operand.func 81),args:=#[Operand.tmp 10],argTypes:=#[28] },_,_,_,none⟩) rfl (fun K hK=>?_) AllReadyH.nil
 go_simp
 go_at_call 81
 refine(HB.out _ hg1).mono ?_;rintro e w1 ⟨rfl,h1⟩;obtain rfl:w1=W.drew:=h1;refine hK.out _ _ ⟨c0,c1,c3⟩ (fun hHeld=>?_)
 clear hK K
 (try simp only[Act.put,za,zb,zc])
 refine tk (i:=7) (oi:=⟨some 17,Op.binOp BinOp.neq 3 (Operand.tmp 11) (Operand.tmp 16) 3,_,_,_,none⟩) (v:=?_) rfl hHeld ?_ ?_;rotate_left
 ·rintro w ⟨s1,s2,s3⟩;go_simp;try with_reducible rfl
 (try simp only[Act.put,za,zb,zc])
 refine tk (i:=8) (oi:=⟨some 18,Op.move (Operand.tmp 17),_,_,_,none⟩) (v:=?_) rfl hHeld ?_ ?_;rotate_left
 ·rintro w ⟨s1,s2,s3⟩;go_simp;try with_reducible rfl
 (try simp only[Act.put,za,zb,zc])
 refine tk (i:=9) (oi:=⟨some 19,Op.move (Operand.tmp 0),_,_,_,some (8,false)⟩) (v:=?_) rfl hHeld ?_ ?_;rotate_left
 ·rintro w ⟨s1,s2,s3⟩;go_simp;try with_reducible rfl
 (try simp only[Act.put,za,zb,zc])
 refine tk (i:=11) (oi:=⟨some 21,Op.move (Operand.tmp 1),_,_,_,some (8,false)⟩) (v:=?_) rfl hHeld ?_ ?_;rotate_left
 ·rintro w ⟨s1,s2,s3⟩;go_simp;try with_reducible rfl
 (try simp only[Act.put,za,zb,zc])
 refine tk (i:=12) (oi:=⟨some 22,Op.nilCheck (Operand.tmp 21),_,_,_,some (8,false)⟩) (v:=?_) rfl hHeld ?_ ?_;rotate_left
 ·rintro w ⟨s1,s2,s3⟩;go_simp;try with_reducible rfl
 (try simp only[Act.put,za,zb,zc])
 refine tk (i:=13) (oi:=⟨some 23,Op.fieldAddr 185 (Operand.tmp 22) 1,_,_,_,some (8,false)⟩) (v:=?_) rfl hHeld ?_ ?_;rotate_left
 ·rintro w ⟨s1,s2,s3⟩;go_simp;try with_reducible rfl
 (try simp only[Act.put,za,zb,zc])
 refine tk (i:=14) (oi:=⟨some 24,Op.load 2 (Operand.tmp 23),_,_,_,some (8,false)⟩) (v:=?_) rfl hHeld ?_ ?_;rotate_left
 ·rintro w ⟨s1,s2,s3⟩;go_simp;try with_reducible rfl
 (try simp only[Act.put,za,zb,zc])
 refine wpAnyH_ready (rs:=[10]) (by kernel_rfl) (by simp) ?_
 refine AllReadyH.cons (o:=⟨some 20,Op.call { callee:=Callee.value (Operand.func 113),args:=#[Operand.tmp 19],argTypes:=#[28] },_,_,_,some (8,false)⟩) rfl (fun K hK=>?_) AllReadyH.nil
 go_simp
 go_at_call 113
 refine(HST.out _ hg1).mono ?_;rintro e w2 ⟨rfl,h2⟩;obtain rfl:w2=W.drew:=h2;refine hK.out _ _ ⟨c0,c1,c3⟩ (fun hHeld=>?_)
 clear hK K
 (try simp only[Act.put,za,zb,zc])
 refine tk (i:=15) (oi:=⟨some 25,Op.binOp BinOp.neq 2 (Operand.tmp 20) (Operand.tmp 24) 2,_,_,_,some (8,false)⟩) (v:=?_) rfl hHeld ?_ ?_;rotate_left
 ·rintro w ⟨s1,s2,s3⟩;go_simp;try with_reducible rfl
 (try simp only[Act.put,za,zb,zc])
 refine tk (i:=16) (oi:=⟨some 26,Op.pick (Operand.tmp 18) (Operand.const (Value.bool true)) (Operand.tmp 25),_,_,_,none⟩) (v:=?_) rfl hHeld ?_ ?_;rotate_left
 ·rintro w ⟨s1,s2,s3⟩;go_simp;try with_reducible rfl
 (try simp only[Act.put,za,zb,zc])
 refine tk (i:=17) (oi:=⟨some 27,Op.move (Operand.tmp 26),_,_,_,none⟩) (v:=?_) rfl hHeld ?_ ?_;rotate_left
 ·rintro w ⟨s1,s2,s3⟩;go_simp;try with_reducible rfl
 (try simp only[Act.put,za,zb,zc])
 refine tk (i:=18) (oi:=⟨some 28,Op.move (Operand.tmp 0),_,_,_,some (17,false)⟩) (v:=?_) rfl hHeld ?_ ?_;rotate_left
 ·rintro w ⟨s1,s2,s3⟩;go_simp;try with_reducible rfl
 (try simp only[Act.put,za,zb,zc])
 refine tk (i:=20) (oi:=⟨some 30,Op.move (Operand.tmp 1),_,_,_,some (17,false)⟩) (v:=?_) rfl hHeld ?_ ?_;rotate_left
 ·rintro w ⟨s1,s2,s3⟩;go_simp;try with_reducible rfl
 (try simp only[Act.put,za,zb,zc])
 refine tk (i:=21) (oi:=⟨some 31,Op.nilCheck (Operand.tmp 30),_,_,_,some (17,false)⟩) (v:=?_) rfl hHeld ?_ ?_;rotate_left
 ·rintro w ⟨s1,s2,s3⟩;go_simp;try with_reducible rfl
 (try simp only[Act.put,za,zb,zc])
 refine tk (i:=22) (oi:=⟨some 32,Op.fieldAddr 185 (Operand.tmp 31) 3,_,_,_,some (17,false)⟩) (v:=?_) rfl hHeld ?_ ?_;rotate_left
 ·rintro w ⟨s1,s2,s3⟩;go_simp;try with_reducible rfl
 (try simp only[Act.put,za,zb,zc])
 refine tk (i:=23) (oi:=⟨some 33,Op.load 4 (Operand.tmp 32),_,_,_,some (17,false)⟩) (v:=?_) rfl hHeld ?_ ?_;rotate_left
 ·rintro w ⟨s1,s2,s3⟩;go_simp;try with_reducible rfl
 (try simp only[Act.put,za,zb,zc])
 refine wpAnyH_ready (rs:=[19]) (by kernel_rfl) (by simp) ?_
 refine AllReadyH.cons (o:=⟨some 29,Op.call { callee:=Callee.value (Operand.func 33),args:=#[Operand.tmp 28],argTypes:=#[28] },_,_,_,some (17,false)⟩) rfl (fun K hK=>?_) AllReadyH.nil
 go_simp
 go_at_call 33
 refine(HO.out _ hg1).mono ?_;rintro e w3 ⟨rfl,h3⟩;obtain rfl:w3=W.drew:=h3;refine hK.out _ _ ⟨c0,c1,c3⟩ (fun hHeld=>?_)
 clear hK K
 (try simp only[Act.put,za,zb,zc])
 refine tk (i:=24) (oi:=⟨some 34,Op.binOp BinOp.neq 4 (Operand.tmp 29) (Operand.tmp 33) 4,_,_,_,some (17,false)⟩) (v:=?_) rfl hHeld ?_ ?_;rotate_left
 ·rintro w ⟨s1,s2,s3⟩;go_simp;try with_reducible rfl
 (try simp only[Act.put,za,zb,zc])
 refine tk (i:=25) (oi:=⟨some 35,Op.pick (Operand.tmp 27) (Operand.const (Value.bool true)) (Operand.tmp 34),_,_,_,none⟩) (v:=?_) rfl hHeld ?_ ?_;rotate_left
 ·rintro w ⟨s1,s2,s3⟩;go_simp;try with_reducible rfl
 (try simp only[Act.put,za,zb,zc])
 refine wpAnyH_done (by kernel_rfl) ?_ _
 clear hHeld;have HG1:=zd hg1;clear hg1
 go_upto_region 4 with fail
 go_loopw [5] (fun i wr=>∃j:Nat,j≤n∧i = .int .i64 (j:Int)∧W.grownBy wr none) (fun i _=>n-(intOf i).toNat)
 case atStart=>exact⟨0,by omega,rfl,HG1.out⟩
 case round=>
  obtain⟨j,hj,rfl,hg⟩:=hrel;have HG:=zd hg;have e0:=hg.cell c0 (by simp)
  clear hg
  by_cases hjn:j<n
  ·have hjd:j<d.n:=by have:=HNN.out;have:=HN.out;omega
   have hr1:=dread (HD.out.kept HG.out) (j:Int);unfold Ze at hr1;have HR1:=zd hr1;clear hr1;have HR2:=zd (fun w (h:W.grownBy w none)=>rread (HR.out.kept h) (j:Int))
   have hmm:=zgq HS.out (j:Int);rw[hmm] at HR2;have hby:R.bytes ((j:Int)).toNat=bk d.now ((j:Int)).toNat:=by rw[Int.toNat_natCast];exact Up HS.out hjd
   rw[hby] at HR2;have HBL:Hid (∀w v,zg9 wr w v (bk d.now ((j:Int)).toNat)→yi w v (bk d.now ((j:Int)).toNat)):=(fun w v h=>by
    obtain⟨⟨g,e,_,h2⟩,hl,_⟩:=h;refine⟨some ⟨g,0,none⟩,256,by rw[e,hl],Or.inr ⟨_,rfl,fun j u hu=>?_⟩⟩
    rw[qe]
    exact(zf h2 j).trans (by simpa using hu))
   generalize bk d.now ((j:Int)).toNat=x at *;generalize d.mayE (j:Int) 0=ev at *;clear hmm hby
   by_cases hez:ev=0
   ·subst hez
    go_upto_region 8 with (first
     | (go_at_call 114;refine HR1.out.mono ?_;rintro e w5 ⟨hg5,v5,rfl,hv5⟩;have hb5:zg9 wr w5 v5 x:=hv5.elim (fun h=>absurd rfl h.1) (fun h=>h.2);have HV5:=zd (HBL.out w5 v5 hb5);have HG5:=zd (zh HG.out hg5);clear hg5 hv5 hb5)
     | (go_at_call 107;refine(HR2.out _ HG5.out).mono ?_;rintro e w6 ⟨rfl,h6⟩;obtain rfl:w5=w6:=h6.symm))
    have hcv:=Yy HV5.out;go_wp2
    exact⟨⟨j+1,by omega,by simp,HG5.out⟩,by simp[intOf];omega⟩
   ·have hcv:∀w,(convert 32 9 (.slice none 0 0)).run Tryz.prog w = .ok (.string ⟨#[]⟩) w:=fun w=>Yy (l:=[]) ⟨none,0,rfl,Or.inl rfl⟩
    rw[if_neg hez] at HR2
    go_upto_region 8 with (first
     | (go_at_call 114;refine HR1.out.mono ?_;rintro e w5 ⟨hg5,v5,rfl,hv5⟩;obtain rfl:v5 = .slice none 0 0:=hv5.elim (fun h=>h.2) (fun h=>absurd h.1 hez);have HG5:=zd (zh HG.out hg5);clear hg5 hv5)
     | (go_at_call 107;refine(HR2.out _ HG5.out).mono ?_;rintro e w6 ⟨rfl,h6⟩;obtain rfl:w5=w6:=h6.symm))
    have hcv5:=hcv w5;go_wp2
    exact⟨⟨j+1,by omega,by simp,HG5.out⟩,by simp[intOf];omega⟩
  ·obtain rfl:j=n:=by omega
   go_wp2
   go_ret
   exact⟨rfl,HG.out⟩
end
theorem zit {x:List Int} (hb:BL x) {k:Nat} (hk:k<x.length) (hk2:k<(ofB x).size):((ofB x)[k].toNat:Int)=x[k]:=by
 have h:=hb x[k] (List.getElem_mem hk);have e:(ofB x)[k]=UInt8.ofNat x[k].toNat:=by
  show((x.map fun b=>UInt8.ofNat b.toNat).toArray)[k]'(by simpa using hk)=_
  rw[List.getElem_toArray,List.getElem_map]
 rw[e,UInt8.toNat_ofNat'];omega
theorem zk6 {x:List Int} (hx:x.length=256) (h:∀j,j<256→x[j]? = some 0):x=zv:=by
 apply List.ext_getElem?
 intro i
 rcases Nat.lt_or_ge i 256 with hi|hi
 ·rw[h i hi]
  unfold zv;rw[List.getElem?_replicate,if_pos hi]
 ·rw[List.getElem?_eq_none (by omega),List.getElem?_eq_none (by rw[xe];exact hi)]
set_option maxRecDepth 100000 in
theorem zhx {x:List Int} (hx:x.length=256) (hb:BL x) (W:World):Calls Tryz.prog 109 #[.string (ofB x)] W fun e w'=>e = .returned (.bool (decide (x=zv)))∧w'=W:=by
 have hsz:(ofB x).size=256:=by rw[xr];exact hx
 go_enter Tryz.func109,Tryz.ntmps109
 go_wp2
 go_loopw [3] (fun i wr=>W=wr∧∃k:Nat,k≤256∧i = .int .i64 k∧∀j,j<k→x[j]? = some 0) (fun i _=>256-(intOf i).toNat)
 case atStart=>exact⟨rfl,0,by omega,rfl,by simp⟩
 case round=>
  obtain⟨rfl,k,hk,rfl,hall⟩:=hrel
  by_cases hkm:k<256
  ·have hkl:k<x.length:=by omega
   have hg:=zit hb hkl (by rw[hsz];exact hkm)
   by_cases h0:x[k]=0
   ·have hne:(((ofB x)[k]'(by rw[hsz];exact hkm)).toNat:Int)=0:=by rw[hg];exact h0
    have HA:Hid (∀j,j<k+1→x[j]? = some 0):=(fun j hj=>by
     rcases Nat.lt_or_ge j k with h|h
     ·exact hall j h
     ·obtain rfl:j=k:=by omega
      rw[List.getElem?_eq_getElem hkl,h0])
    clear hall hg;go_wp2;refine⟨⟨trivial,k+1,by omega,by simp,HA.out⟩,by simp[intOf];omega⟩
   ·have hne:¬(((ofB x)[k]'(by rw[hsz];exact hkm)).toNat:Int)=0:=by rw[hg];exact h0
    have hd:decide (x=zv)=false:=by
     rw[decide_eq_false_iff_not];intro e
     apply h0
     have:x[k]? = some 0:=by
      rw[e];unfold zv;rw[List.getElem?_replicate,if_pos hkm]
     rw[List.getElem?_eq_getElem hkl] at this
     injection this
    have HD:=zd hd;clear hall hg hd;go_wp2
    go_ret
    exact⟨by rw[HD.out];rfl,rfl⟩
  ·obtain rfl:k=256:=by omega
   have hd:decide (x=zv)=true:=by
    rw[decide_eq_true_iff]
    exact zk6 hx hall
   have HD:=zd hd;clear hall hd;go_wp2
   go_ret
   exact⟨by rw[HD.out];rfl,rfl⟩
theorem Qf:∀(l:List Int) (a n:Nat),a<256 ^ n→(∀b∈l,0≤b∧b≤255)→l.foldl (fun a b=>a*256+b.toNat) a<256 ^ (n+l.length)
 | [],a,n,ha,_=>ha
 | b :: t,a,n,ha,h=>by
  have hb:=h b (by simp)
  have:=Qf t (a*256+b.toNat) (n+1) (by rw[Nat.pow_succ];omega) (fun c hc=>h c (List.mem_cons_of_mem _ hc))
  rw[show n+(b :: t).length=n+1+t.length by simp;omega]
  exact this
set_option maxRecDepth 100000 in
theorem Vn {W:World} {v:Value} {l:List Int} (hv:yi W v l) (hb:BL l) (hl:l.length≤8):Calls Tryz.prog 179 #[v] W fun e w'=>e = .returned (.int .u64 (num l:Int))∧w'=W:=by
 obtain⟨p,cap,rfl,hc⟩:=hv.ex;have HC:=zd hc;have HB:=zd hb;obtain⟨n,hn⟩:∃n,n=l.length:=⟨_,rfl⟩;rw[←hn];have HN:=zd hn;rw[←hn] at hl;clear hv hb hn hc
 go_enter Tryz.func179,Tryz.ntmps179
 go_wp2
 go_loopw [3,4] (fun r i wr=>W=wr∧∃k:Nat,k≤n∧r = .int .u64 (num (l.take k):Int)∧i = .int .i64 k) (fun _ i _=>n-(intOf i).toNat)
 case atStart=>exact⟨rfl,0,by omega,rfl,rfl⟩
 case round=>
  obtain⟨rfl,k,hk,rfl,rfl⟩:=hrel
  by_cases hkn:k<n
  ·have hkl:k<l.length:=by rw[←HN.out];exact hkn
   have hcell:∃a,p=some a∧W.cell? (a.add k)=some (.int .u8 l[k]):=by
    rcases HC.out with h0|⟨a,rfl,h1⟩
    ·rw[h0] at hkl;simp at hkl
    ·exact⟨a,rfl,h1 k _ (by simp[zg,hkl])⟩
   obtain⟨a,rfl,cell⟩:=hcell;have hbk:=HB.out l[k] (List.getElem_mem _);have hlt:num (l.take (k+1))<256 ^ 8:=Nat.lt_of_lt_of_le (Qf (l.take (k+1)) 0 0 (by omega) (fun b hb=>by have:=HB.out b (List.mem_of_mem_take hb);omega)) (Nat.pow_le_pow_right (by omega) (by rw[List.length_take];omega))
   have HS:Hid (num (l.take (k+1))=num (l.take k)*256+l[k].toNat):=(show _=_ from by rw[List.take_succ_eq_append_getElem hkl,zb7])
   rw[HS.out] at hlt;have hx:((l[k].toNat:Nat):Int)=l[k]:=by omega
   have HX:=zd hx;generalize l[k]=c at *;generalize num (l.take k)=q at *;clear hx;have e1:(q:Int)*256<18446744073709551616:=by omega
   have e2:(q:Int)*256+c<18446744073709551616:=by omega
   have e3:(0:Int)≤(q:Int)*256:=by omega
   have e4:(0:Int)≤(q:Int)*256+c:=by omega
   go_wp2;refine⟨⟨trivial,k+1,by omega,by rw[HS.out];congr 1;have:=HX.out;push_cast;omega,by simp⟩,by simp[intOf];omega⟩
  ·obtain rfl:k=n:=by omega
   have htk:l.take k=l:=List.take_of_length_le (by rw[←HN.out];exact Nat.le_refl _)
   have HTK:=zd htk;clear htk;go_wp2
   go_ret
   exact⟨by rw[HTK.out];rfl,rfl⟩
end Go.Proofs.YtbcbhlfjgobejaaGreat
