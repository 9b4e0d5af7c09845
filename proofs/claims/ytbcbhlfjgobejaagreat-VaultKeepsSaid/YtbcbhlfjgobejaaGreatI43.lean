/- Chapter 20's same: the walk (printed by gen_vp2.py). Conditions: none, or as the theorems say. -/
import Derived.Test.YtbcbhlfjgobejaaGreatI1
import Derived.Test.YtbcbhlfjgobejaaGreatI39
import Derived.Test.YtbcbhlfjgobejaaGreatI41
import Derived.Test.YtbcbhlfjgobejaaGreatI42
set_option linter.unusedSimpArgs false
set_option linter.unusedVariables false
namespace Go.Proofs.YtbcbhlfjgobejaaGreat
set_option maxHeartbeats 200000000
open Go.RowKit Go.Sf Go.Shelf
attribute [local go_sem] Oper.semAt_some
def Ur (V:Vlt) (life:Int) (l:List ShM):Prop:=V.life=life∧V.sh.length=l.length∧∀x∈l,∃k,zw V.sh (idS x)=some (x,k)
theorem zd3 (w:World):(zeroValue 97).run Tryz.prog w = .ok jo w:=by kernel_rfl
theorem neq_sh (k1 r1 k2 r2:ByteArray) (v1 n1 v2 n2:Int) (w:World):(binOp .neq 102 (.agg #[.string k1,.int .i64 v1,.int .i64 n1,.string r1]) (.agg #[.string k2,.int .i64 v2,.int .i64 n2,.string r2])).run Tryz.prog w = .ok (.bool (!decide (k1=k2∧v1=v2∧n1=n2∧r1=r2))) w:=by
 simp[go_sem,Vz]
 by_cases e1:k1=k2 <;> by_cases e2:v1=v2 <;> by_cases e3:n1=n2 <;> by_cases e4:r1=r2 <;> simp[e1,e2,e3,e4]
def Got6 (W:World) (sk sr:List Int) (la ma:Nat) (sv sn:Int) (is:Bool) (a i:Value) (w:World):Prop:=∃bb qk dk qr dr,a = .pointer (some ⟨bb,0,none⟩)∧i = .bool is∧W.grownBy w none∧w.heap[bb]? = some (.cells #[.slice qk la dk,.int .i64 sv,.int .i64 sn,.slice qr ma dr] 97 (0,0))∧yc w (.slice qk la dk) sk∧yc w (.slice qr ma dr) sr
section
variable {W w w' : World} {own : Nat → Prop} {vb db : Nat} {V : Vlt}
theorem VR.bs (h:VR W own vb db V w):∀p∈V.sh,BS p.2.1:=fun p hp=>by
 obtain⟨st,mb,km,vk,h1⟩:=h.rep;rw[h1.she] at hp;obtain⟨q,hq,rfl⟩:=List.mem_map.1 hp
 exact(h1.rows q hq).bl
theorem VR.ids (h:VR W own vb db V w) (hl:V.sh.length≤1000000):Calls Tryz.prog 78 #[.pointer (some ⟨vb,0,none⟩)] w fun e w'=>∃p c,e = .returned (.slice p V.sh.length c)∧w.grownBy w' none:=by
 obtain⟨st,mb,km,vk,h1⟩:=h.rep
 exact znc h1 hl
set_option maxRecDepth 100000 in
theorem zcd (h:VR W own vb db V w) (hvl:V.sh.length≤1000) {life:Int} {l:List ShM} {pe:Option Addr} {ce:Nat} (hX:Qi w (.slice pe l.length ce) l) (hxb:∀x∈l,BS x) (hl:l.length≤1000) :
  Calls Tryz.prog 68 #[.pointer (some ⟨vb,0,none⟩),.agg #[.int .i64 life,.slice pe l.length ce]] w (zi0 w (Ur V life l)):=by
 have HLF:Hid (∀w1,w.grownBy w1 none→Calls Tryz.prog 76 #[.pointer (some ⟨vb,0,none⟩)] w1 fun e w'=>e = .returned (.int .i64 V.life)∧w'=w1):=zd fun w1 hg=>(h.grown hg).life
 have HID:Hid (∀w1,w.grownBy w1 none→Calls Tryz.prog 78 #[.pointer (some ⟨vb,0,none⟩)] w1 fun e w'=>∃p c,e = .returned (.slice p V.sh.length c)∧w1.grownBy w' none):=zd fun w1 hg=>(h.grown hg).ids (by omega)
 have HGT:Hid (∀w1 i,w.grownBy w1 none→Calls Tryz.prog 75 #[.pointer (some ⟨vb,0,none⟩),yu i] w1 (ze2 w1 (V.look i).1 (zw V.sh i).isSome)):=zd fun w1 i hg=>(h.grown hg).get i
 have HEQ:Hid (∀x∈l,((zw V.sh (idS x)).isSome=true∧shA (V.look (idS x)).1=shA x)↔∃k,zw V.sh (idS x)=some (x,k)):=zd fun x hx=>by
  unfold Vlt.look
  cases hm:zw V.sh (idS x) with
  | none=>simp
  | some p=>
   have hb:=h.bs _ (uo hm);simp only[Option.isSome_some,Option.getD_some,true_and,Option.some.injEq]
   exact⟨fun e=>⟨p.2,by rw[←shA_inj hb (hxb x hx) e]⟩,fun ⟨k,e⟩=>by rw[e]⟩
 have HC:Hid (∀j (hj:j<l.length),∃g,pe=some ⟨g,0,none⟩∧w.cell? ⟨g,j*4,none⟩=some (.string (ofB l[j].key))∧w.cell? ⟨g,j*4+1,none⟩=some (.int .i64 l[j].znm)∧w.cell? ⟨g,j*4+2,none⟩=some (.int .i64 l[j].node)∧w.cell? ⟨g,j*4+3,none⟩=some (.string (ofB l[j].row))):=zd fun j hj=>hX.cells hj
 have HSV:Hid (Ur V life l↔(V.life=life∧V.sh.length=l.length∧∀x∈l,∃k,zw V.sh (idS x)=some (x,k))):=zd Iff.rfl;generalize Ur V life l=P at *;clear h hX hxb;generalize hvi:V.life=lf at *;obtain⟨n,hn⟩:∃n,n=l.length:=⟨_,rfl⟩;have HN:=zd hn;rw[←hn] at hl HSV ⊢;clear hn hvi;generalize V.sh.length=vn at *;have hw1:=zg w (.cells #[.int .i64 life,.slice pe n ce] 106) none;have hh1:=heap_alloc_new w (.cells #[.int .i64 life,.slice pe n ce] 106);have HW1:=zd hw1;have d0:=(zh hh1 0).trans rfl;have d1:=(zh hh1 1).trans rfl;clear hw1 hh1
 go_enter Tryz.func68,Tryz.ntmps68
 go_upto_region 1 with fail
 generalize w.alloc (.cells #[.int .i64 life,.slice pe n ce] 106)=W1 at *;generalize w.heap.size=xb at *;have d0:W1.cell? ⟨xb,0,none⟩=some (.int .i64 life):=d0;have d1:W1.cell? ⟨xb,1,none⟩=some (.slice pe n ce):=d1
 by_cases h1:lf=life
 ·by_cases h2:vn=n
  ·have HS1:Hid ((∀x∈l,∃k,zw V.sh (idS x)=some (x,k))↔P):=zd (by rw[HSV.out];exact⟨fun e=>⟨h1,h2,e⟩,fun e=>e.2.2⟩)
   subst h1 h2;clear HSV;refine wp_region_held_drew (S:=fun w'=>w'.cell? ⟨xb,0,none⟩=some (.int .i64 lf)∧w'.cell? ⟨xb,1,none⟩=some (.slice pe vn ce)∧w.grownBy w' none) (by kernel_rfl) ⟨d0,d1,zl HW1.out⟩ (fun hHeld=>?_)
   generalize W1.drew=y0 at *;refine tk (i:=0) (oi:=⟨some 8,Op.move (Operand.tmp 0),_,_,_,none⟩) (v:=?_) rfl hHeld ?_ ?_;rotate_left
   ·rintro w -;go_simp;try with_reducible rfl
   (try simp only[Act.put,za,zb,zc])
   refine tk (i:=2) (oi:=⟨some 10,Op.fieldAddr 106 (Operand.tmp 3) 0,_,_,_,none⟩) (v:=?_) rfl hHeld ?_ ?_;rotate_left
   ·rintro w -;go_simp;try with_reducible rfl
   (try simp only[Act.put,za,zb,zc])
   refine tk (i:=3) (oi:=⟨some 11,Op.load 2 (Operand.tmp 10),_,_,_,none⟩) (v:=?_) rfl hHeld ?_ ?_;rotate_left
   ·rintro w ⟨s1,s2,s3⟩;go_simp;try with_reducible rfl
   (try simp only[Act.put,za,zb,zc])
   refine wpAnyH_ready (rs:=[1]) (by kernel_rfl) (by simp) ?_
   refine AllReadyH.cons (o:=⟨some 9,Op.call { callee:=Callee.value (Operand.func 76),args:=#[Operand.tmp 8],argTypes:=#[92] },_,_,_,none⟩) rfl (fun K hK=>?_) AllReadyH.nil
   go_simp
   go_at_call 76
   refine(HLF.out _ hHeld.2.2).mono ?_;rintro e y1 ⟨rfl,rfl⟩;refine hK.out _ _ hHeld (fun hHeld=>?_)
   clear hK K
   (try simp only[Act.put,za,zb,zc])
   refine tk (i:=4) (oi:=⟨some 12,Op.binOp BinOp.neq 2 (Operand.tmp 9) (Operand.tmp 11) 2,_,_,_,none⟩) (v:=?_) rfl hHeld ?_ ?_;rotate_left
   ·rintro w -;go_simp;try with_reducible rfl
   (try simp only[Act.put,za,zb,zc])
   refine tk (i:=5) (oi:=⟨some 13,Op.move (Operand.tmp 12),_,_,_,none⟩) (v:=?_) rfl hHeld ?_ ?_;rotate_left
   ·rintro w -;go_simp;try with_reducible rfl
   (try simp only[Act.put,za,zb,zc])
   refine tk (i:=6) (oi:=⟨some 14,Op.move (Operand.tmp 0),_,_,_,some (5,false)⟩) (v:=?_) rfl hHeld ?_ ?_;rotate_left
   ·rintro w -;go_simp;try with_reducible rfl
   (try simp only[Act.put,za,zb,zc])
   refine tk (i:=9) (oi:=⟨some 17,Op.fieldAddr 106 (Operand.tmp 3) 1,_,_,_,some (5,false)⟩) (v:=?_) rfl hHeld ?_ ?_;rotate_left
   ·rintro w -;go_simp;try with_reducible rfl
   (try simp only[Act.put,za,zb,zc])
   refine tk (i:=10) (oi:=⟨some 18,Op.load 95 (Operand.tmp 17),_,_,_,some (5,false)⟩) (v:=?_) rfl hHeld ?_ ?_;rotate_left
   ·rintro w ⟨s1,s2,s3⟩;go_simp;try with_reducible rfl
   (try simp only[Act.put,za,zb,zc])
   refine tk (i:=11) (oi:=⟨some 19,Op.call { callee:=Callee.builtin Builtin.len,args:=#[Operand.tmp 18],argTypes:=#[95] },_,_,_,some (5,false)⟩) (v:=?_) rfl hHeld ?_ ?_;rotate_left
   ·rintro w -;go_simp;try with_reducible rfl
   (try simp only[Act.put,za,zb,zc])
   refine wpAnyH_ready (rs:=[7]) (by kernel_rfl) (by simp) ?_
   refine AllReadyH.cons (o:=⟨some 15,Op.call { callee:=Callee.value (Operand.func 78),args:=#[Operand.tmp 14],argTypes:=#[92] },_,_,_,some (5,false)⟩) rfl (fun K hK=>?_) AllReadyH.nil
   go_simp
   go_at_call 78
   refine(HID.out _ hHeld.2.2).mono ?_;rintro e w2 ⟨pi,ci,rfl,hg⟩;refine hK.out _ _ ⟨hg.cell hHeld.1 (by simp),hg.cell hHeld.2.1 (by simp),zo hHeld.2.2 hg⟩ (fun hHeld=>?_)
   clear hK K
   (try simp only[Act.put,za,zb,zc])
   clear hg;refine tk (i:=8) (oi:=⟨some 16,Op.call { callee:=Callee.builtin Builtin.len,args:=#[Operand.tmp 15],argTypes:=#[125] },_,_,_,some (5,false)⟩) (v:=?_) rfl hHeld ?_ ?_;rotate_left
   ·rintro w -;go_simp;try with_reducible rfl
   (try simp only[Act.put,za,zb,zc])
   refine tk (i:=12) (oi:=⟨some 20,Op.binOp BinOp.neq 3 (Operand.tmp 16) (Operand.tmp 19) 3,_,_,_,some (5,false)⟩) (v:=?_) rfl hHeld ?_ ?_;rotate_left
   ·rintro w -;go_simp;try with_reducible rfl
   (try simp only[Act.put,za,zb,zc])
   refine tk (i:=13) (oi:=⟨some 21,Op.pick (Operand.tmp 13) (Operand.const (Value.bool true)) (Operand.tmp 20),_,_,_,none⟩) (v:=?_) rfl hHeld ?_ ?_;rotate_left
   ·rintro w -;go_simp;try with_reducible rfl
   (try simp only[Act.put,za,zb,zc])
   have HW2:=zd hHeld.2.2;replace d1:=hHeld.2.1;refine wpAnyH_done (by kernel_rfl) ?_ _
   clear hHeld;clear d0 HLF HID;go_wp2
   go_loopw [5] (fun i wr=>w2.grownBy wr none∧∃j:Nat,j≤vn∧i = .int .i64 j∧∀x∈l.take j,∃k,zw V.sh (idS x)=some (x,k)) (fun i _=>vn-(intOf i).toNat)
   case atStart=>exact⟨zm _,0,Nat.zero_le _,rfl,fun x hx=>by simp at hx⟩
   case round=>
    as_aux_lemma=>
    obtain⟨hg,j,hj,rfl,htk⟩:=hrel;have HTK:=zd htk;have HG:=zd hg;clear htk;have d1r:=hg.cell d1 (by simp)
    have hdl:=xg d1r
    by_cases hjn:j<vn
    ·have hjl:j<l.length:=by rw[←HN.out];exact hjn
     obtain⟨g,rfl,k0,k1,k2,k3⟩:=HC.out j hjl;have hgw:=zo HW2.out hg;replace k0:=hgw.cell k0 (by simp)
     replace k1:=hgw.cell k1 (by simp)
     replace k2:=hgw.cell k2 (by simp)
     replace k3:=hgw.cell k3 (by simp)
     have hgl:=xg k0;have HT:Hid (l.take (j+1)=l.take j ++ [l[j]]):=zd (List.take_succ_eq_append_getElem hjl);have HQ:=zd (HEQ.out l[j] (List.getElem_mem hjl));have HM:=zd (List.getElem_mem hjl);have hj1:j+1≤1000:=by omega
     have h0:(0:Int)≤(j:Int):=by omega
     have hjn2:(j:Int)<(vn:Int):=by omega
     have HGW:=zd hgw;clear hgw;generalize l[j]=x at *;obtain⟨s,hs⟩:∃s,s=(V.look (idS x)).1:=⟨_,rfl⟩;obtain⟨is,his⟩:∃is,is=(zw V.sh (idS x)).isSome:=⟨_,rfl⟩;have HGX:Hid (∀w1,wr.grownBy w1 none→Calls Tryz.prog 75 #[.pointer (some ⟨vb,0,none⟩),yu (idS x)] w1 (ze2 w1 s is)):=zd fun w1 hg1=>by rw[hs,his];exact HGT.out w1 _ (zo HGW.out hg1)
     rw[←hs,←his] at HQ;clear hs his;unfold ze2 shV yu idS at HGX;obtain⟨sk,sv,sn,sr⟩:=s;simp only at HGX;unfold shA at HQ;simp only at HQ;obtain⟨la,hla⟩:∃n,n=sk.length:=⟨_,rfl⟩;obtain⟨ma,hma⟩:∃n,n=sr.length:=⟨_,rfl⟩;rw[←hla,←hma] at HGX;have HPL:Hid (∀w1 qk dk qr dr,yc w1 (.slice qk la dk) sk→yc w1 (.slice qr ma dr) sr→Calls Tryz.prog 67 #[.agg #[.slice qk la dk,.int .i64 sv,.int .i64 sn,.slice qr ma dr]] w1 fun e w'=>e = .returned (.agg #[.string (ofB sk),.int .i64 sv,.int .i64 sn,.string (ofB sr)])∧w1.grownBy w' none):=zd fun w1 qk dk qr dr h1 h2=>by
      rw[hla] at h1 ⊢;rw[hma] at h2 ⊢
      exact zap (s:=⟨sk,sv,sn,sr⟩) h1 h2
     clear hla hma;obtain⟨xk,hxk⟩:∃k,k=ofB x.key:=⟨_,rfl⟩;obtain⟨xr,hxr⟩:∃k,k=ofB x.row:=⟨_,rfl⟩;obtain⟨xv,hxv⟩:∃k,k=x.znm:=⟨_,rfl⟩;obtain⟨xn,hxn⟩:∃k,k=x.node:=⟨_,rfl⟩;rw[←hxk] at k0 HQ HGX;rw[←hxv] at k1 HQ HGX;rw[←hxn] at k2 HQ;rw[←hxr] at k3 HQ;clear hxk hxr hxv hxn;obtain⟨yk,hyk⟩:∃k,k=ofB sk:=⟨_,rfl⟩;obtain⟨yr,hyr⟩:∃k,k=ofB sr:=⟨_,rfl⟩;rw[←hyk] at HQ HPL;rw[←hyr] at HQ HPL;clear hyk hyr;have HEX:Hid ((is=true∧(yk=xk∧sv=xv∧sn=xn∧yr=xr))↔∃k,zw V.sh (idS x)=some (x,k)):=zd (by
      rw[←HQ.out];simp)
     clear HQ;have HBW2:Hid (xb<wr.heap.size∧g<wr.heap.size):=zd ⟨hdl,hgl⟩
     go_upto_region 6 with fail
     go_cut [6,7] (fun a i wx=>Got6 wr sk sr la ma sv sn is a i wx)
     case first=>
      refine wp_region_held_drew (S:=fun w=>w.cell? ⟨xb,1,none⟩=some (.slice (some ⟨g,0,none⟩) vn ce)∧w.cell? ⟨g,j*4,none⟩=some (.string xk)∧w.cell? ⟨g,j*4+1,none⟩=some (.int .i64 xv)) (by kernel_rfl) ⟨d1r,k0,k1⟩ (fun hHeld=>?_)
      have HGx0:Hid (wr.grownBy wr.drew none):=zd (zl (zm _));generalize wr.drew=x0 at *;refine tk (i:=0) (oi:=⟨some 30,Op.move (Operand.tmp 0),_,_,_,none⟩) (v:=?_) rfl hHeld ?_ ?_;rotate_left
      ·rintro w -;go_simp;try with_reducible rfl
      (try simp only[Act.put,za,zb,zc])
      refine tk (i:=1) (oi:=⟨some 31,Op.fieldAddr 106 (Operand.tmp 3) 1,_,_,_,none⟩) (v:=?_) rfl hHeld ?_ ?_;rotate_left
      ·rintro w -;go_simp;try with_reducible rfl
      (try simp only[Act.put,za,zb,zc])
      refine tk (i:=3) (oi:=⟨some 33,Op.move (Operand.tmp 5),_,_,_,none⟩) (v:=?_) rfl hHeld ?_ ?_;rotate_left
      ·rintro w -;go_simp;try with_reducible rfl
      (try simp only[Act.put,za,zb,zc])
      refine tk (i:=7) (oi:=⟨some 37,Op.fieldAddr 106 (Operand.tmp 3) 1,_,_,_,none⟩) (v:=?_) rfl hHeld ?_ ?_;rotate_left
      ·rintro w -;go_simp;try with_reducible rfl
      (try simp only[Act.put,za,zb,zc])
      refine tk (i:=9) (oi:=⟨some 39,Op.move (Operand.tmp 5),_,_,_,none⟩) (v:=?_) rfl hHeld ?_ ?_;rotate_left
      ·rintro w -;go_simp;try with_reducible rfl
      (try simp only[Act.put,za,zb,zc])
      refine tk (i:=2) (oi:=⟨some 32,Op.load 95 (Operand.tmp 31),_,_,_,none⟩) (v:=?_) rfl hHeld ?_ ?_;rotate_left
      ·rintro w ⟨s1,s2,s3⟩;go_simp;try with_reducible rfl
      (try simp only[Act.put,za,zb,zc])
      refine tk (i:=8) (oi:=⟨some 38,Op.load 95 (Operand.tmp 37),_,_,_,none⟩) (v:=?_) rfl hHeld ?_ ?_;rotate_left
      ·rintro w ⟨s1,s2,s3⟩;go_simp;try with_reducible rfl
      (try simp only[Act.put,za,zb,zc])
      refine tk (i:=4) (oi:=⟨some 34,Op.indexAddr 95 (Operand.tmp 32) (Operand.tmp 33),_,_,_,none⟩) (v:=?_) rfl hHeld ?_ ?_;rotate_left
      ·rintro w -;go_simp;try with_reducible rfl
      (try simp only[Act.put,za,zb,zc])
      refine tk (i:=10) (oi:=⟨some 40,Op.indexAddr 95 (Operand.tmp 38) (Operand.tmp 39),_,_,_,none⟩) (v:=?_) rfl hHeld ?_ ?_;rotate_left
      ·rintro w -;go_simp;try with_reducible rfl
      (try simp only[Act.put,za,zb,zc])
      refine tk (i:=5) (oi:=⟨some 35,Op.fieldAddr 102 (Operand.tmp 34) 0,_,_,_,none⟩) (v:=?_) rfl hHeld ?_ ?_;rotate_left
      ·rintro w -;go_simp;try with_reducible rfl
      (try simp only[Act.put,za,zb,zc])
      refine tk (i:=11) (oi:=⟨some 41,Op.fieldAddr 102 (Operand.tmp 40) 1,_,_,_,none⟩) (v:=?_) rfl hHeld ?_ ?_;rotate_left
      ·rintro w -;go_simp;try with_reducible rfl
      (try simp only[Act.put,za,zb,zc])
      refine tk (i:=6) (oi:=⟨some 36,Op.load 9 (Operand.tmp 35),_,_,_,none⟩) (v:=?_) rfl hHeld ?_ ?_;rotate_left
      ·rintro w ⟨s1,s2,s3⟩;go_simp;try with_reducible rfl
      (try simp only[Act.put,za,zb,zc])
      refine tk (i:=12) (oi:=⟨some 42,Op.load 2 (Operand.tmp 41),_,_,_,none⟩) (v:=?_) rfl hHeld ?_ ?_;rotate_left
      ·rintro w ⟨s1,s2,s3⟩;go_simp;try with_reducible rfl
      (try simp only[Act.put,za,zb,zc])
      refine tk (i:=13) (oi:=⟨some 43,Op.build 109 #[(0,Operand.tmp 36),(1,Operand.tmp 42)],_,_,_,none⟩) (v:=?_) rfl hHeld ?_ ?_;rotate_left
      ·rintro w -;go_simp;try with_reducible rfl
      (try simp only[Act.put,za,zb,zc])
      refine wpAnyH_ready (rs:=[14,18]) (by kernel_rfl) (by simp) ?_
      refine(AllReadyH.cons (o:=⟨some 44,Op.call { callee:=Callee.value (Operand.func 75),args:=#[Operand.tmp 30,Operand.tmp 43],argTypes:=#[92,109] },_,_,_,none⟩) rfl (fun K hK=>?_) (AllReadyH.cons (o:=⟨some 6,Op.alloc 97,_,_,_,none⟩) rfl (fun K hK=>?_) AllReadyH.nil))
      ·go_simp
       go_at_call 75
       refine(HGX.out x0 HGx0.out).mono ?_;rintro e x1 ⟨qk,dk,qr,dr,rfl,hg,hr1,hr2⟩;have HGx1:=zd (zo HGx0.out hg);have HRx1:=zd (And.intro hr1 hr2);refine hK.out _ _ ⟨hg.cell hHeld.1 (by simp),hg.cell hHeld.2.1 (by simp),hg.cell hHeld.2.2 (by simp)⟩ (fun hHeld=>?_)
       clear hK K
       (try simp only[Act.put,za,zb,zc])
       clear hg hr1 hr2;refine tk (i:=15) (oi:=⟨some 29,Op.move (Operand.tmp 44),_,_,_,none⟩) (v:=?_) rfl hHeld ?_ ?_;rotate_left
       ·rintro w -;go_simp;try with_reducible rfl
       (try simp only[Act.put,za,zb,zc])
       refine tk (i:=16) (oi:=⟨some 45,Op.extract (Operand.tmp 29) 0,_,_,_,none⟩) (v:=?_) rfl hHeld ?_ ?_;rotate_left
       ·rintro w -;go_simp;try with_reducible rfl
       (try simp only[Act.put,za,zb,zc])
       refine tk (i:=17) (oi:=⟨some 46,Op.extract (Operand.tmp 29) 1,_,_,_,none⟩) (v:=?_) rfl hHeld ?_ ?_;rotate_left
       ·rintro w -;go_simp;try with_reducible rfl
       (try simp only[Act.put,za,zb,zc])
       refine wpAnyH_ready (rs:=[18]) (by kernel_rfl) (by simp) ?_
       refine(AllReadyH.cons (o:=⟨some 6,Op.alloc 97,_,_,_,none⟩) rfl (fun K hK=>?_) AllReadyH.nil)
       refine xw rfl (ve 97 rfl zd3) ?_;have hg:=zg x1 (.cells jo.cells 97) none;have HKx2:=zd (heap_alloc_new x1 (.cells jo.cells 97));have HGx2:=zd (zo HGx1.out hg);have HBN:Hid (wr.heap.size≤x1.heap.size):=zd HGx1.out.size;have HNE:Hid (∀k,(x0.heap.size≤k∧k<x1.heap.size)→k≠x1.heap.size):=zd fun k hk=>by omega
       have HRx2:=zd (And.intro (HRx1.out.1.gr hg) (HRx1.out.2.gr hg));refine hK.out _ _ ⟨hg.cell hHeld.1 (by simp),hg.cell hHeld.2.1 (by simp),hg.cell hHeld.2.2 (by simp)⟩ (fun hHeld=>?_)
       clear hK K
       (try simp only[Act.put,za,zb,zc])
       clear hg;generalize hbb:x1.heap.size=bb at *;clear hbb;generalize x1.alloc (.cells jo.cells 97)=x2 at *;refine wpAnyH_ready (rs:=[19]) (by kernel_rfl) (by simp) ?_
       refine(AllReadyH.cons (o:=⟨none,Op.store 97 (Operand.tmp 6) (Operand.tmp 45),_,_,_,none⟩) rfl (fun K hK=>?_) AllReadyH.nil)
       have HLTx2:Hid (∀k,(x0.heap.size≤k∧k<bb)→k<x2.heap.size):=zd fun k hk=>by have:=(Array.getElem?_eq_some_iff.1 HKx2.out).1;omega
       refine xc rfl (uh 97 _ _ rfl bb #[.slice qk la dk,.int .i64 sv,.int .i64 sn,.slice qr ma dr] _ jo.cells rfl rfl HKx2.out (by kernel_rfl) rfl (by simp[Value.oneCell'])) ?_
       have hg:=qy x2 bb #[.slice qk la dk,.int .i64 sv,.int .i64 sn,.slice qr ma dr];have hwn:wr.grownBy (x2.setRow bb #[.slice qk la dk,.int .i64 sv,.int .i64 sn,.slice qr ma dr]) none:=xi HGx2.out hg (fun q hq=>by injection hq with hq;have:=HBN.out;omega)
       have HL:Hid (Got6 wr sk sr la ma sv sn is (.pointer (some ⟨bb,0,none⟩)) (.bool is) (x2.setRow bb #[.slice qk la dk,.int .i64 sv,.int .i64 sn,.slice qr ma dr])):=zd ⟨bb,qk,dk,qr,dr,rfl,rfl,hwn,setRow_heap _ _ _ _ _ _ HKx2.out,(HRx2.out.1.turn fun k hk=>hg.block k (HLTx2.out k hk) (fun e=>HNE.out k hk (Option.some.inj e))).raw,(HRx2.out.2.turn fun k hk=>hg.block k (HLTx2.out k hk) (fun e=>HNE.out k hk (Option.some.inj e))).raw⟩
       refine hK.out _ _ ⟨hg.cell hHeld.1 (fun e=>by have e2:xb=bb:=Option.some.inj e;have:=HBN.out;have:=HBW2.out;omega),hg.cell hHeld.2.1 (fun e=>by have e2:g=bb:=Option.some.inj e;have:=HBN.out;have:=HBW2.out;omega),hg.cell hHeld.2.2 (fun e=>by have e2:g=bb:=Option.some.inj e;have:=HBN.out;have:=HBW2.out;omega)⟩ (fun hHeld=>?_)
       clear hK K
       (try simp only[Act.put])
       clear hg hwn;generalize x2.setRow bb #[.slice qk la dk,.int .i64 sv,.int .i64 sn,.slice qr ma dr]=x3 at *;refine tk (i:=20) (oi:=⟨some 7,Op.assign (Operand.tmp 46),_,_,_,none⟩) (v:=?_) rfl hHeld ?_ ?_;rotate_left
       ·rintro w -;go_simp;try with_reducible rfl
       (try simp only[Act.put,za,zb,zc])
       refine wpAnyH_done (by kernel_rfl) ?_ _
       go_wp2_with fail
       go_meet
       case rel=>exact HL.out
      ·refine xw rfl (ve 97 rfl zd3) ?_
       have hg:=zg x0 (.cells jo.cells 97) none;have HKx1:=zd (heap_alloc_new x0 (.cells jo.cells 97));have HGx1:=zd (zo HGx0.out hg);have HBN:Hid (wr.heap.size≤x0.heap.size):=zd HGx0.out.size;refine hK.out _ _ ⟨hg.cell hHeld.1 (by simp),hg.cell hHeld.2.1 (by simp),hg.cell hHeld.2.2 (by simp)⟩ (fun hHeld=>?_)
       clear hK K
       (try simp only[Act.put,za,zb,zc])
       clear hg;generalize hbb:x0.heap.size=bb at *;clear hbb;generalize x0.alloc (.cells jo.cells 97)=x1 at *;refine wpAnyH_ready (rs:=[14]) (by kernel_rfl) (by simp) ?_
       refine(AllReadyH.cons (o:=⟨some 44,Op.call { callee:=Callee.value (Operand.func 75),args:=#[Operand.tmp 30,Operand.tmp 43],argTypes:=#[92,109] },_,_,_,none⟩) rfl (fun K hK=>?_) AllReadyH.nil)
       go_simp
       go_at_call 75
       refine(HGX.out x1 HGx1.out).mono ?_;rintro e x2 ⟨qk,dk,qr,dr,rfl,hg,hr1,hr2⟩;have HGx2:=zd (zo HGx1.out hg);have HKx2:=zd ((hg.block bb (Array.getElem?_eq_some_iff.1 HKx1.out).1 (by simp)).trans HKx1.out)
       have HNE:Hid (∀k,(x1.heap.size≤k∧k<x2.heap.size)→k≠bb):=zd fun k hk=>by have:=(Array.getElem?_eq_some_iff.1 HKx1.out).1;omega
       have HRx2:=zd (And.intro hr1 hr2);refine hK.out _ _ ⟨hg.cell hHeld.1 (by simp),hg.cell hHeld.2.1 (by simp),hg.cell hHeld.2.2 (by simp)⟩ (fun hHeld=>?_)
       clear hK K
       (try simp only[Act.put,za,zb,zc])
       clear hg hr1 hr2;refine tk (i:=15) (oi:=⟨some 29,Op.move (Operand.tmp 44),_,_,_,none⟩) (v:=?_) rfl hHeld ?_ ?_;rotate_left
       ·rintro w -;go_simp;try with_reducible rfl
       (try simp only[Act.put,za,zb,zc])
       refine tk (i:=16) (oi:=⟨some 45,Op.extract (Operand.tmp 29) 0,_,_,_,none⟩) (v:=?_) rfl hHeld ?_ ?_;rotate_left
       ·rintro w -;go_simp;try with_reducible rfl
       (try simp only[Act.put,za,zb,zc])
       refine tk (i:=17) (oi:=⟨some 46,Op.extract (Operand.tmp 29) 1,_,_,_,none⟩) (v:=?_) rfl hHeld ?_ ?_;rotate_left
       ·rintro w -;go_simp;try with_reducible rfl
       (try simp only[Act.put,za,zb,zc])
       refine wpAnyH_ready (rs:=[19]) (by kernel_rfl) (by simp) ?_
       refine(AllReadyH.cons (o:=⟨none,Op.store 97 (Operand.tmp 6) (Operand.tmp 45),_,_,_,none⟩) rfl (fun K hK=>?_) AllReadyH.nil)
       have HLTx2:Hid (∀k,(x1.heap.size≤k∧k<x2.heap.size)→k<x2.heap.size):=zd fun k hk=>hk.2
       refine xc rfl (uh 97 _ _ rfl bb #[.slice qk la dk,.int .i64 sv,.int .i64 sn,.slice qr ma dr] _ jo.cells rfl rfl HKx2.out (by kernel_rfl) rfl (by simp[Value.oneCell'])) ?_
       have hg:=qy x2 bb #[.slice qk la dk,.int .i64 sv,.int .i64 sn,.slice qr ma dr];have hwn:wr.grownBy (x2.setRow bb #[.slice qk la dk,.int .i64 sv,.int .i64 sn,.slice qr ma dr]) none:=xi HGx2.out hg (fun q hq=>by injection hq with hq;have:=HBN.out;omega)
       have HL:Hid (Got6 wr sk sr la ma sv sn is (.pointer (some ⟨bb,0,none⟩)) (.bool is) (x2.setRow bb #[.slice qk la dk,.int .i64 sv,.int .i64 sn,.slice qr ma dr])):=zd ⟨bb,qk,dk,qr,dr,rfl,rfl,hwn,setRow_heap _ _ _ _ _ _ HKx2.out,(HRx2.out.1.turn fun k hk=>hg.block k (HLTx2.out k hk) (fun e=>HNE.out k hk (Option.some.inj e))).raw,(HRx2.out.2.turn fun k hk=>hg.block k (HLTx2.out k hk) (fun e=>HNE.out k hk (Option.some.inj e))).raw⟩
       refine hK.out _ _ ⟨hg.cell hHeld.1 (fun e=>by have e2:xb=bb:=Option.some.inj e;have:=HBN.out;have:=HBW2.out;omega),hg.cell hHeld.2.1 (fun e=>by have e2:g=bb:=Option.some.inj e;have:=HBN.out;have:=HBW2.out;omega),hg.cell hHeld.2.2 (fun e=>by have e2:g=bb:=Option.some.inj e;have:=HBN.out;have:=HBW2.out;omega)⟩ (fun hHeld=>?_)
       clear hK K
       (try simp only[Act.put])
       clear hg hwn;generalize x2.setRow bb #[.slice qk la dk,.int .i64 sv,.int .i64 sn,.slice qr ma dr]=x3 at *;refine tk (i:=20) (oi:=⟨some 7,Op.assign (Operand.tmp 46),_,_,_,none⟩) (v:=?_) rfl hHeld ?_ ?_;rotate_left
       ·rintro w -;go_simp;try with_reducible rfl
       (try simp only[Act.put,za,zb,zc])
       refine wpAnyH_done (by kernel_rfl) ?_ _
       go_wp2_with fail
       go_meet
       case rel=>exact HL.out
     case rest=>
      obtain⟨bb,qk,dk,qr,dr,rfl,rfl,hg6,hbb,hr1,hr2⟩:=hcut;have HG6:=zd hg6;replace d1r:=hg6.cell d1r (by simp)
      replace k0:=hg6.cell k0 (by simp)
      replace k1:=hg6.cell k1 (by simp)
      replace k2:=hg6.cell k2 (by simp)
      replace k3:=hg6.cell k3 (by simp)
      obtain⟨a0,a1,a2,a3,-⟩:=yx hbb;have hbl:=xg a0;have hgl9:=xg k0;have hdl9:=xg d1r;have HPX:Hid (∀y:Ext,Calls Tryz.prog 67 #[.agg #[.slice qk la dk,.int .i64 sv,.int .i64 sn,.slice qr ma dr]] (ext wc y) fun e w'=>e = .returned (.agg #[.string yk,.int .i64 sv,.int .i64 sn,.string yr])∧(ext wc y).grownBy w' none):=zd fun y=>HPL.out (ext wc y) qk dk qr dr (hr1.grown (ul wc y) (by simp)) (hr2.grown (ul wc y) (by simp))
      clear hg6 hbb hr1 hr2
      cases is with
      | false=>
       have HF:Hid (¬P):=zd fun e=>by
        have h5:=HEX.out.2 (HS1.out.2 e x HM.out)
        exact absurd h5.1 (by decide)
       go_upto_region 7 with fail
       refine yd (by kernel_rfl) (by kernel_rfl) ?_
       repeat (any_goals (first|go_big_quiet_step (fail)|quiet_step (fail)))
       refine wpQuiet_nil ?_;intro _ hw';obtain⟨xx,hw''⟩:=hw';subst hw'';have HG9:=zd (ul wc xx);generalize ext wc xx=w9 at *;go_wp2
       all_goals go_ret
       all_goals exact Qw (zo HGW.out (zo HG6.out HG9.out)) HF.out
      | true=>
       obtain⟨r,hr⟩:∃r:Bool,r=decide (yk=xk∧sv=xv∧sn=xn∧yr=xr):=⟨_,rfl⟩;have hne:∀w0,(binOp .neq 102 (.agg #[.string yk,.int .i64 sv,.int .i64 sn,.string yr]) (.agg #[.string xk,.int .i64 xv,.int .i64 xn,.string xr])).run Tryz.prog w0 = .ok (.bool (!r)) w0:=fun w0=>by rw[neq_sh,hr]
       have HRR:Hid (r=true↔∃k,zw V.sh (idS x)=some (x,k)):=zd (by rw[←HEX.out,hr];simp)
       clear hr
       go_upto_region 7 with fail
       refine yd (by kernel_rfl) (by kernel_rfl) ?_
       repeat (any_goals (first|go_big_quiet_step ((go_at_call 67;exact yq (HPX.out _)))|quiet_step ((go_at_call 67;exact yq (HPX.out _)))))
       refine wpQuiet_nil ?_;intro _ hw';obtain⟨xx,hw''⟩:=hw';subst hw'';have HG9:=zd (ul wc xx);generalize ext wc xx=w9 at *;clear hne
       cases r with
       | true=>
        have HK:=zd (HRR.out.1 rfl);go_wp2
        exact⟨⟨zo HG.out (zo HG6.out HG9.out),j+1,by omega,by simp,fun y hy=>by
         rw[HT.out] at hy
         rcases List.mem_append.1 hy with e|e
         ·exact HTK.out y e
         ·rw[List.mem_singleton.1 e];exact HK.out⟩,by simp[intOf];omega⟩
       | false=>
        have HF:Hid (¬P):=zd fun e=>by
         have h5:=HRR.out.2 (HS1.out.2 e x HM.out)
         cases h5
        go_wp2
        all_goals go_ret
        all_goals exact Qw (zo HGW.out (zo HG6.out HG9.out)) HF.out
    ·have hjn2:¬(j:Int)<(vn:Int):=by omega
     have HP:Hid P:=zd (HS1.out.1 (by
      have h5:=HTK.out
      rwa [List.take_of_length_le (by rw[←HN.out];omega)] at h5))
     go_wp2
     go_ret
     exact zkt (zo HW2.out HG.out) HP.out
  ·have HF:Hid (¬P):=zd fun e=>h2 (HSV.out.1 e).2.1
   have h3:((vn:Int) != (n:Int))=true:=by simp;omega
   subst h1;refine wp_region_held_drew (S:=fun w'=>w'.cell? ⟨xb,0,none⟩=some (.int .i64 lf)∧w'.cell? ⟨xb,1,none⟩=some (.slice pe n ce)∧w.grownBy w' none) (by kernel_rfl) ⟨d0,d1,zl HW1.out⟩ (fun hHeld=>?_)
   generalize W1.drew=y0 at *;refine tk (i:=0) (oi:=⟨some 8,Op.move (Operand.tmp 0),_,_,_,none⟩) (v:=?_) rfl hHeld ?_ ?_;rotate_left
   ·rintro w -;go_simp;try with_reducible rfl
   (try simp only[Act.put,za,zb,zc])
   refine tk (i:=2) (oi:=⟨some 10,Op.fieldAddr 106 (Operand.tmp 3) 0,_,_,_,none⟩) (v:=?_) rfl hHeld ?_ ?_;rotate_left
   ·rintro w -;go_simp;try with_reducible rfl
   (try simp only[Act.put,za,zb,zc])
   refine tk (i:=3) (oi:=⟨some 11,Op.load 2 (Operand.tmp 10),_,_,_,none⟩) (v:=?_) rfl hHeld ?_ ?_;rotate_left
   ·rintro w ⟨s1,s2,s3⟩;go_simp;try with_reducible rfl
   (try simp only[Act.put,za,zb,zc])
   refine wpAnyH_ready (rs:=[1]) (by kernel_rfl) (by simp) ?_
   refine AllReadyH.cons (o:=⟨some 9,Op.call { callee:=Callee.value (Operand.func 76),args:=#[Operand.tmp 8],argTypes:=#[92] },_,_,_,none⟩) rfl (fun K hK=>?_) AllReadyH.nil
   go_simp
   go_at_call 76
   refine(HLF.out _ hHeld.2.2).mono ?_;rintro e y1 ⟨rfl,rfl⟩;refine hK.out _ _ hHeld (fun hHeld=>?_)
   clear hK K
   (try simp only[Act.put,za,zb,zc])
   refine tk (i:=4) (oi:=⟨some 12,Op.binOp BinOp.neq 2 (Operand.tmp 9) (Operand.tmp 11) 2,_,_,_,none⟩) (v:=?_) rfl hHeld ?_ ?_;rotate_left
   ·rintro w -;go_simp;try with_reducible rfl
   (try simp only[Act.put,za,zb,zc])
   refine tk (i:=5) (oi:=⟨some 13,Op.move (Operand.tmp 12),_,_,_,none⟩) (v:=?_) rfl hHeld ?_ ?_;rotate_left
   ·rintro w -;go_simp;try with_reducible rfl
   (try simp only[Act.put,za,zb,zc])
   refine tk (i:=6) (oi:=⟨some 14,Op.move (Operand.tmp 0),_,_,_,some (5,false)⟩) (v:=?_) rfl hHeld ?_ ?_;rotate_left
   ·rintro w -;go_simp;try with_reducible rfl
   (try simp only[Act.put,za,zb,zc])
   refine tk (i:=9) (oi:=⟨some 17,Op.fieldAddr 106 (Operand.tmp 3) 1,_,_,_,some (5,false)⟩) (v:=?_) rfl hHeld ?_ ?_;rotate_left
   ·rintro w -;go_simp;try with_reducible rfl
   (try simp only[Act.put,za,zb,zc])
   refine tk (i:=10) (oi:=⟨some 18,Op.load 95 (Operand.tmp 17),_,_,_,some (5,false)⟩) (v:=?_) rfl hHeld ?_ ?_;rotate_left
   ·rintro w ⟨s1,s2,s3⟩;go_simp;try with_reducible rfl
   (try simp only[Act.put,za,zb,zc])
   refine tk (i:=11) (oi:=⟨some 19,Op.call { callee:=Callee.builtin Builtin.len,args:=#[Operand.tmp 18],argTypes:=#[95] },_,_,_,some (5,false)⟩) (v:=?_) rfl hHeld ?_ ?_;rotate_left
   ·rintro w -;go_simp;try with_reducible rfl
   (try simp only[Act.put,za,zb,zc])
   refine wpAnyH_ready (rs:=[7]) (by kernel_rfl) (by simp) ?_
   refine AllReadyH.cons (o:=⟨some 15,Op.call { callee:=Callee.value (Operand.func 78),args:=#[Operand.tmp 14],argTypes:=#[92] },_,_,_,some (5,false)⟩) rfl (fun K hK=>?_) AllReadyH.nil
   go_simp
   go_at_call 78
   refine(HID.out _ hHeld.2.2).mono ?_;rintro e w2 ⟨pi,ci,rfl,hg⟩;refine hK.out _ _ ⟨hg.cell hHeld.1 (by simp),hg.cell hHeld.2.1 (by simp),zo hHeld.2.2 hg⟩ (fun hHeld=>?_)
   clear hK K
   (try simp only[Act.put,za,zb,zc])
   clear hg;refine tk (i:=8) (oi:=⟨some 16,Op.call { callee:=Callee.builtin Builtin.len,args:=#[Operand.tmp 15],argTypes:=#[125] },_,_,_,some (5,false)⟩) (v:=?_) rfl hHeld ?_ ?_;rotate_left
   ·rintro w -;go_simp;try with_reducible rfl
   (try simp only[Act.put,za,zb,zc])
   refine tk (i:=12) (oi:=⟨some 20,Op.binOp BinOp.neq 3 (Operand.tmp 16) (Operand.tmp 19) 3,_,_,_,some (5,false)⟩) (v:=?_) rfl hHeld ?_ ?_;rotate_left
   ·rintro w -;go_simp;try with_reducible rfl
   (try simp only[Act.put,za,zb,zc])
   refine tk (i:=13) (oi:=⟨some 21,Op.pick (Operand.tmp 13) (Operand.const (Value.bool true)) (Operand.tmp 20),_,_,_,none⟩) (v:=?_) rfl hHeld ?_ ?_;rotate_left
   ·rintro w -;go_simp;try with_reducible rfl
   (try simp only[Act.put,za,zb,zc])
   have HW2:=zd hHeld.2.2;replace d1:=hHeld.2.1;refine wpAnyH_done (by kernel_rfl) ?_ _
   clear hHeld;clear d0 HLF HID;go_wp2
   all_goals go_ret
   all_goals exact Qw HW2.out HF.out
 ·have HF:Hid (¬P):=zd fun e=>h1 (HSV.out.1 e).1
  have h3:(lf != life)=true:=by simp[h1]
  refine wp_region_held_drew (S:=fun w'=>w'.cell? ⟨xb,0,none⟩=some (.int .i64 life)∧w'.cell? ⟨xb,1,none⟩=some (.slice pe n ce)∧w.grownBy w' none) (by kernel_rfl) ⟨d0,d1,zl HW1.out⟩ (fun hHeld=>?_)
  generalize W1.drew=y0 at *;refine tk (i:=0) (oi:=⟨some 8,Op.move (Operand.tmp 0),_,_,_,none⟩) (v:=?_) rfl hHeld ?_ ?_;rotate_left
  ·rintro w -;go_simp;try with_reducible rfl
  (try simp only[Act.put,za,zb,zc])
  refine tk (i:=2) (oi:=⟨some 10,Op.fieldAddr 106 (Operand.tmp 3) 0,_,_,_,none⟩) (v:=?_) rfl hHeld ?_ ?_;rotate_left
  ·rintro w -;go_simp;try with_reducible rfl
  (try simp only[Act.put,za,zb,zc])
  refine tk (i:=3) (oi:=⟨some 11,Op.load 2 (Operand.tmp 10),_,_,_,none⟩) (v:=?_) rfl hHeld ?_ ?_;rotate_left
  ·rintro w ⟨s1,s2,s3⟩;go_simp;try with_reducible rfl
  (try simp only[Act.put,za,zb,zc])
  refine wpAnyH_ready (rs:=[1]) (by kernel_rfl) (by simp) ?_
  refine AllReadyH.cons (o:=⟨some 9,Op.call { callee:=Callee.value (Operand.func 76),args:=#[Operand.tmp 8],argTypes:=#[92] },_,_,_,none⟩) rfl (fun K hK=>?_) AllReadyH.nil
  go_simp
  go_at_call 76
  refine(HLF.out _ hHeld.2.2).mono ?_;rintro e y1 ⟨rfl,rfl⟩;refine hK.out _ _ hHeld (fun hHeld=>?_)
  clear hK K
  (try simp only[Act.put,za,zb,zc])
  refine tk (i:=4) (oi:=⟨some 12,Op.binOp BinOp.neq 2 (Operand.tmp 9) (Operand.tmp 11) 2,_,_,_,none⟩) (v:=?_) rfl hHeld ?_ ?_;rotate_left
  ·rintro w -;go_simp;try with_reducible rfl
  (try simp only[Act.put,za,zb,zc])
  refine tk (i:=5) (oi:=⟨some 13,Op.move (Operand.tmp 12),_,_,_,none⟩) (v:=?_) rfl hHeld ?_ ?_;rotate_left
  ·rintro w -;go_simp;try with_reducible rfl
  (try simp only[Act.put,za,zb,zc])
  refine wpAnyH_take (i:=6) (oi:=⟨some 14,Op.move (Operand.tmp 0),_,_,_,some (5,false)⟩) (v:=undef) rfl (by kernel_rfl) (by kernel_rfl) (by kernel_rfl) (fun _ _ _ h=>h) (Or.inr ⟨by rfl,rfl⟩) hHeld ?_
  (try simp only[Act.put,za,zb,zc])
  refine wpAnyH_take (i:=7) (oi:=⟨some 15,Op.call { callee:=Callee.value (Operand.func 78),args:=#[Operand.tmp 14],argTypes:=#[92] },_,_,_,some (5,false)⟩) (v:=undef) rfl (by kernel_rfl) (by kernel_rfl) (by kernel_rfl) (fun _ _ _ h=>h) (Or.inr ⟨by rfl,rfl⟩) hHeld ?_
  (try simp only[Act.put,za,zb,zc])
  refine wpAnyH_take (i:=8) (oi:=⟨some 16,Op.call { callee:=Callee.builtin Builtin.len,args:=#[Operand.tmp 15],argTypes:=#[125] },_,_,_,some (5,false)⟩) (v:=undef) rfl (by kernel_rfl) (by kernel_rfl) (by kernel_rfl) (fun _ _ _ h=>h) (Or.inr ⟨by rfl,rfl⟩) hHeld ?_
  (try simp only[Act.put,za,zb,zc])
  refine wpAnyH_take (i:=9) (oi:=⟨some 17,Op.fieldAddr 106 (Operand.tmp 3) 1,_,_,_,some (5,false)⟩) (v:=undef) rfl (by kernel_rfl) (by kernel_rfl) (by kernel_rfl) (fun _ _ _ h=>h) (Or.inr ⟨by rfl,rfl⟩) hHeld ?_
  (try simp only[Act.put,za,zb,zc])
  refine wpAnyH_take (i:=10) (oi:=⟨some 18,Op.load 95 (Operand.tmp 17),_,_,_,some (5,false)⟩) (v:=undef) rfl (by kernel_rfl) (by kernel_rfl) (by kernel_rfl) (fun _ _ _ h=>h) (Or.inr ⟨by rfl,rfl⟩) hHeld ?_
  (try simp only[Act.put,za,zb,zc])
  refine wpAnyH_take (i:=11) (oi:=⟨some 19,Op.call { callee:=Callee.builtin Builtin.len,args:=#[Operand.tmp 18],argTypes:=#[95] },_,_,_,some (5,false)⟩) (v:=undef) rfl (by kernel_rfl) (by kernel_rfl) (by kernel_rfl) (fun _ _ _ h=>h) (Or.inr ⟨by rfl,rfl⟩) hHeld ?_
  (try simp only[Act.put,za,zb,zc])
  refine wpAnyH_take (i:=12) (oi:=⟨some 20,Op.binOp BinOp.neq 3 (Operand.tmp 16) (Operand.tmp 19) 3,_,_,_,some (5,false)⟩) (v:=undef) rfl (by kernel_rfl) (by kernel_rfl) (by kernel_rfl) (fun _ _ _ h=>h) (Or.inr ⟨by rfl,rfl⟩) hHeld ?_
  (try simp only[Act.put,za,zb,zc])
  refine tk (i:=13) (oi:=⟨some 21,Op.pick (Operand.tmp 13) (Operand.const (Value.bool true)) (Operand.tmp 20),_,_,_,none⟩) (v:=?_) rfl hHeld ?_ ?_;rotate_left
  ·rintro w -;go_simp;try with_reducible rfl
  (try simp only[Act.put,za,zb,zc])
  have HW2:=zd hHeld.2.2;refine wpAnyH_done (by kernel_rfl) ?_ _
  clear hHeld;go_wp2
  all_goals go_ret
  all_goals exact Qw HW2.out HF.out
end
end Go.Proofs.YtbcbhlfjgobejaaGreat
