/- share.Put: the walk. Conditions: none, or as the theorems say. -/
import Derived.Test.YtbcbhlfjgobejaaGreatI28
set_option linter.unusedSimpArgs false
set_option linter.unusedVariables false
namespace Go.Proofs.YtbcbhlfjgobejaaGreat
set_option maxHeartbeats 200000000
open Go.RowKit Go.Sf Go.Shelf
attribute [local go_sem] Oper.semAt_some
theorem yl {A:Nat→Prop} {X Y:World} (hg:X.grownBy Y none):zq A X Y:=⟨hg.os,hg.tape,hg.output,hg.size,fun k hk _=>hg.block k hk (by simp)⟩
structure ShM where
 key:List Int
 znm:Int
 node:Int
 row:List Int
structure ze3 (s:ShM):Prop where
 k1:1≤s.key.length
 k2:s.key.length≤64
 v:1≤s.znm
 v2:s.znm≤9223372036854775807
 n1:0≤s.node
 n2:s.node<255
 r:s.row.length≤65536
def qd (s:ShM):List Int:=be 1 s.key.length++s.key++be 8 s.znm.toNat++be 1 s.node.toNat++be 4 s.row.length++s.row
def vh (s:ShM):List Int:=qd s++be 4 (ya (qd s))
theorem zc3 (s:ShM):(qd s).length=14+s.key.length+s.row.length:=by simp[qd,yo];omega
theorem Vj (s:ShM):(vh s).length=18+s.key.length+s.row.length:=by simp[vh,zc3,yo];omega
theorem ze8 {s:ShM} (h1:BL s.key) (h2:BL s.row):BL (qd s):=by
 unfold qd
 exact BL.app (BL.app (BL.app (BL.app (BL.app (Zm _ _) h1) (Zm _ _)) (Zm _ _)) (Zm _ _)) h2
theorem encS_BL {s:ShM} (h1:BL s.key) (h2:BL s.row):BL (vh s):=BL.app (ze8 h1 h2) (Zm _ _)
theorem Yj (s:ShM) (h:s.znm≤9223372036854775807):Xf s.key.length s.znm s.node s.row.length=true↔ze3 s:=by
 unfold Xf;rw[decide_eq_true_iff]
 exact⟨fun ⟨a,b,c,d,e,f⟩=>⟨a,b,c,h,d,e,f⟩,fun ⟨a,b,c,_,d,e,f⟩=>⟨a,b,c,d,e,f⟩⟩
theorem zfj {w:World} {b:Nat} {o:Obj} (h:w.heap[b]? = some o):b<w.heap.size:=(Array.getElem?_eq_some_iff.1 h).1
section
variable {W w : World} {pk pr : Option Addr} {ck cr : Nat} {s : ShM}
def shV (pk:Option Addr) (ck:Nat) (pr:Option Addr) (cr:Nat) (s:ShM):Value:=.agg #[.slice pk s.key.length ck,.int .i64 s.znm,.int .i64 s.node,.slice pr s.row.length cr]
set_option maxRecDepth 100000 in
theorem zk0 (h:ze3 s) (hk:yc W (.slice pk s.key.length ck) s.key) (hr:yc W (.slice pr s.row.length cr) s.row) (hbk:BL s.key) (hbr:BL s.row) :
  Calls Tryz.prog 80 #[shV pk ck pr cr s] W fun e w'=>∃p c,e = .returned (.tuple #[.slice p (vh s).length c,.int .i64 0])∧W.grownBy w' none∧ye (fun k=>W.heap.size≤k∧k<w'.heap.size) w' (.slice p (vh s).length c) (zi (vh s)):=by
 have hm:=(Yj s h.v2).2 h;have HM:Hid (∀w,Calls Tryz.prog 65 #[.agg #[.slice pk s.key.length ck,.int .i64 s.znm,.int .i64 s.node,.slice pr s.row.length cr]] w fun e w'=>e = .returned (.bool true)∧w.grownBy w' none):=zd fun w=>by
  have h1:=zcf w pk s.key.length ck s.znm s.node pr s.row.length cr;rw[hm] at h1
  exact h1
 clear hm;obtain⟨key,znm,node,row⟩:=s;obtain⟨vn,rfl⟩:=Int.eq_ofNat_of_zero_le (show 0≤znm from by have:=h.v;simp only at this;omega)
 obtain⟨nn,rfl⟩:=Int.eq_ofNat_of_zero_le (show 0≤node from h.n1)
 unfold shV;simp only at hk hr hbk hbr HM ⊢;have HH:=zd h;have HK:=zd hk;have HR:=zd hr;have HB:=zd (show BL key∧BL row from ⟨hbk,hbr⟩)
 have HE:Hid (vh ⟨key,(vn:Int),(nn:Int),row⟩=qd ⟨key,(vn:Int),(nn:Int),row⟩++be 4 (ya (qd ⟨key,(vn:Int),(nn:Int),row⟩))∧qd ⟨key,(vn:Int),(nn:Int),row⟩=be 1 key.length++key++be 8 vn++be 1 nn++be 4 row.length++row):=zd ⟨rfl,rfl⟩;have HEL:=zd (Vj ⟨key,(vn:Int),(nn:Int),row⟩);have HBL:=zd (ze8 (s:=⟨key,(vn:Int),(nn:Int),row⟩) hbk hbr);obtain⟨k1,k2,v1,v2,n1,n2,r1⟩:=h;simp only at k1 k2 v1 v2 n1 n2 r1;obtain⟨E,hE⟩:∃E,E=vh ⟨key,(vn:Int),(nn:Int),row⟩:=⟨_,rfl⟩;rw[←hE] at HE HEL ⊢;clear hE;generalize qd ⟨key,(vn:Int),(nn:Int),row⟩=B at *;clear hk hr hbk hbr
 go_enter Tryz.func80,Tryz.ntmps80
 go_upto_region 1 with fail
 have hg1:=zg W (.cells #[.slice pk key.length ck,.int .i64 (vn:Int),.int .i64 (nn:Int),.slice pr row.length cr] 97) none;have hb1:=heap_alloc_new W (.cells #[.slice pk key.length ck,.int .i64 (vn:Int),.int .i64 (nn:Int),.slice pr row.length cr] 97);obtain⟨c0,c1,c2,c3⟩:=ShB.cells hb1;have HG1:=zd hg1;have HB1:=zd hb1;clear hg1 hb1;generalize W.alloc (.cells #[.slice pk key.length ck,.int .i64 (vn:Int),.int .i64 (nn:Int),.slice pr row.length cr] 97)=W1 at *;generalize hxb:W.heap.size=xb at *;have HXB:=zd hxb;clear hxb
 go_upto_region 3 with (go_at_call 65;refine(HM.out _).mono ?_;rintro e w2 ⟨rfl,hg⟩;have HG2:=zd hg;clear hg)
 go_upto_region 4 with fail
 have HS0:=zd (WS.start w2 w2 (zm _));have HT0:Hid (zq (fun k=>¬k<w2.heap.size) w2 (w2.alloc (.cells #[.slice none 0 0] 231))):=zd (yl (zg _ _ none))
 have HXL:Hid (xb<w2.heap.size):=zd (by rw[←HXB.out];exact Nat.lt_of_lt_of_le (by rw[HXB.out];exact zfj HB1.out) HG2.out.size)
 have HGW:=zd (HG1.out.trans HG2.out);have HSB:Hid (∀w',zq (fun k=>¬k<w2.heap.size) w2 w'→w'.cell? ⟨xb,0,none⟩=some (.slice pk key.length ck)∧w'.cell? ⟨xb,1,none⟩=some (.int .i64 (vn:Int))∧w'.cell? ⟨xb,2,none⟩=some (.int .i64 (nn:Int))∧w'.cell? ⟨xb,3,none⟩=some (.slice pr row.length cr)):=zd fun w' ht=>ShB.cells ((ht.block xb HXL.out (fun e=>e HXL.out)).trans ((HG2.out.block xb (zfj HB1.out) (by simp)).trans HB1.out))
 have HRR:Hid (∀w',zq (fun k=>¬k<w2.heap.size) w2 w'→yc w' (.slice pk key.length ck) key∧yc w' (.slice pr row.length cr) row∧W.grownBy w' none):=zd fun w' ht=>by
  have hg:W.grownBy w' none:=xj HGW.out (own:=fun k=>k<w2.heap.size) (fun k hk=>Nat.lt_of_lt_of_le hk HGW.out.size) ht
  exact⟨HK.out.grown hg (by simp),HR.out.grown hg (by simp),hg⟩
 clear HK HR HB1 HG1 HG2 HM HXL c0 c1 c2 c3;generalize w2.alloc (.cells #[.slice none 0 0] 231)=w3 at *;generalize hnk:key.length=nk at *;generalize hnr:row.length=nr at *;have HNK:=zd hnk;have HNR:=zd hnr;clear hnk hnr;have hvn2:vn<18446744073709551616:=by omega
 have hnn2:nn<256:=by omega
 obtain⟨c0,c1,c2,c3⟩:=HSB.out w3 HT0.out
 go_upto_region 5 with (go_at_call 158;refine(HS0.out.byteN (by simp) nk (by omega)).mono ?_;rintro e w4 ⟨rfl,hs,ht⟩;have HS1:=zd hs;have HT1:=zd (HT0.out.trans ht);clear hs ht)
 clear HS0 c0 c1 c2 c3;obtain⟨c0,c1,c2,c3⟩:=HSB.out w4 HT1.out
 go_upto_region 6 with (go_at_call 159;refine(HS1.out.rawN (HRR.out w4 HT1.out).1 (by simp[yo,HNK.out];omega)).mono ?_;rintro e w5 ⟨rfl,hs,ht⟩;have HS2:=zd hs;have HT2:=zd (HT1.out.trans ht);clear hs ht)
 clear HS1 c0 c1 c2 c3;obtain⟨c0,c1,c2,c3⟩:=HSB.out w5 HT2.out
 go_upto_region 7 with (go_at_call 132;refine(HS2.out.longN (by simp[yo,HNK.out];omega) vn hvn2).mono ?_;rintro e w6 ⟨rfl,hs,ht⟩;have HS3:=zd hs;have HT3:=zd (HT2.out.trans ht);clear hs ht)
 clear HS2 c0 c1 c2 c3;obtain⟨c0,c1,c2,c3⟩:=HSB.out w6 HT3.out
 go_upto_region 8 with (go_at_call 158;refine(HS3.out.byteN (by simp[yo,HNK.out];omega) nn hnn2).mono ?_;rintro e w7 ⟨rfl,hs,ht⟩;have HS4:=zd hs;have HT4:=zd (HT3.out.trans ht);clear hs ht)
 clear HS3 c0 c1 c2 c3;obtain⟨c0,c1,c2,c3⟩:=HSB.out w7 HT4.out
 go_upto_region 9 with (go_at_call 160;refine(HS4.out.wordN (by simp[yo,HNK.out];omega) nr (by omega)).mono ?_;rintro e w8 ⟨rfl,hs,ht⟩;have HS5:=zd hs;have HT5:=zd (HT4.out.trans ht);clear hs ht)
 clear HS4 c0 c1 c2 c3;obtain⟨c0,c1,c2,c3⟩:=HSB.out w8 HT5.out
 go_upto_region 10 with (go_at_call 159;refine(HS5.out.rawN (HRR.out w8 HT5.out).2.1 (by simp[yo,HNK.out,HNR.out];omega)).mono ?_;rintro e w9 ⟨rfl,hs,ht⟩;have HS6:=zd hs;have HT6:=zd (HT5.out.trans ht);clear hs ht)
 clear HS5 c0 c1 c2 c3;have hbe:be 1 nk++key++be 8 vn++be 1 nn++be 4 nr++row=B:=by
  rw[HE.out.2]
 have hs6:=HS6.out;rw[List.nil_append,hbe] at hs6;have HS:=zd hs6;have HBN:Hid (B.length≤70000):=zd (by rw[←hbe];simp[yo,HNK.out,HNR.out];omega)
 clear hs6 HS6 hbe
 go_upto_region 11 with (first
  | (go_at_call 134;refine(HS.out.outN (by have:=HBN.out;omega)).mono ?_;rintro e w10 ⟨v,rfl,hr,hg⟩;have HRW:=zd (qg hr);have HG10:=zd hg;clear hr hg)
  | (go_at_call 161;refine(zbd HRW.out HBL.out (by have:=HBN.out;omega)).mono ?_;rintro e w11 ⟨rfl,hg⟩;have HG11:=zd (HG10.out.trans hg);have HS7:=zd (HS.out.keep HG11.out);clear hg)
  | (go_at_call 160;refine(HS7.out.wordN (by have:=HBN.out;omega) (ya B) (zd7 B)).mono ?_;rintro e w12 ⟨rfl,hs,ht⟩;have HS8:=zd hs;have HT7:=zd (HT6.out.trans ((yl HG11.out).trans ht));clear hs ht))
 have hs8:=HS8.out;rw[←HE.out.1] at hs8;have HS9:=zd hs8;have hel:E.length≤70000:=by have:=HEL.out;have h1:=HNK.out;have h2:=HNR.out;omega
 have HOU:Hid (Calls Tryz.prog 134 #[.pointer (some ⟨w2.heap.size,0,none⟩)] w12 fun e w'=>∃p c,e = .returned (.slice p E.length c)∧w12.grownBy w' none∧ye (fun k=>w12.heap.size≤k∧k<w'.heap.size) w' (.slice p E.length c) (zi E)):=zd ((HS9.out.outN (by omega)).mono (by
  rintro e w' ⟨v,rfl,hr,hg⟩;have hrp:=uv.rowP (W:=w12) (w:=w') (v:=v) (l:=E) hr (by omega)
  obtain⟨p,c,rfl,-⟩:=hrp.ex;rw[zr] at hrp ⊢
  exact⟨p,c,rfl,hg,hrp⟩))
 have HGZ:=zd (HRR.out w12 HT7.out).2.2;clear hs8 hel HS HS7 HS8 HS9 HRW
 go_wp2_with (go_at_call 134;refine HOU.out.mono ?_;rintro e w13 ⟨p,c,rfl,hg,hr⟩;have HG13:=zd hg;have HRX:=zd hr;clear hg hr)
 go_ret2
 exact⟨p,c,rfl,HGZ.out.trans HG13.out,HRX.out.mono fun k hk=>⟨Nat.le_trans HGZ.out.size hk.1,hk.2⟩⟩
end
attribute [local go_sem] Oper.semAt_some
def zfh (all:List Int) (s:Nat × Bool) (k:Nat):Bool:=!s.2 && decide (k≤all.length-s.1)
def Zz (all:List Int) (s:Nat × Bool) (k:Nat):Nat:=if zfh all s k=true then num ((all.drop s.1).take k) else 0
def Vc (all:List Int) (s:Nat × Bool) (k:Nat):List Int:=if zfh all s k=true then (all.drop s.1).take k else []
def ux (all:List Int) (s:Nat × Bool) (k:Nat):Nat × Bool:=if zfh all s k=true then (s.1+k,false) else (s.1,true)
section
variable {B : Nat} {w : World} {rb : Nat} {all : List Int} {s : Nat × Bool}
def RdG (B:Nat) (w:World) (rb:Nat) (all:List Int) (s:Nat × Bool):Prop:=Rdr B w rb all s.1 s.2
theorem jl (all:List Int) (s:Nat × Bool) (k:Nat):zfh all s k=true↔(s.2=false∧k≤all.length-s.1):=by
 unfold zfh;simp
def NumG (B:Nat) (w:World) (rb:Nat) (all:List Int) (s:Nat × Bool) (k:Nat) (kd:IntKind) (e:Ending) (w':World):Prop:=e = .returned (.int kd (Zz all s k))∧RdG B w' rb all (ux all s k)∧zq (fun k=>k=rb) w w'
theorem numG {k:Nat} {kd:IntKind} {e:Ending} {w':World} (h:xy B w rb all s.1 s.2 k kd e w'):NumG B w rb all s k kd e w':=by
 obtain⟨ht,h⟩:=h;unfold NumG Zz ux RdG
 by_cases hk:s.2=false∧k≤all.length-s.1
 ·rw[if_pos hk] at h
  rw[if_pos ((jl all s k).2 hk),if_pos ((jl all s k).2 hk)]
  exact⟨h.1,h.2,ht⟩
 ·rw[if_neg hk] at h
  rw[if_neg (fun e=>hk ((jl all s k).1 e)),if_neg (fun e=>hk ((jl all s k).1 e))]
  exact⟨h.1,h.2,ht⟩
theorem byteG (h:RdG B w rb all s) (hl:BL all):Calls Tryz.prog 164 #[.pointer (some ⟨rb,0,none⟩)] w (NumG B w rb all s 1 .u8):=(zf9 h hl).mono fun _ _=>numG
theorem zft (h:RdG B w rb all s) (hl:BL all):Calls Tryz.prog 165 #[.pointer (some ⟨rb,0,none⟩)] w (NumG B w rb all s 8 .u64):=(rLong h hl).mono fun _ _=>numG
theorem wordG (h:RdG B w rb all s) (hl:BL all):Calls Tryz.prog 222 #[.pointer (some ⟨rb,0,none⟩)] w (NumG B w rb all s 4 .u32):=(rWord h hl).mono fun _ _=>numG
theorem za7 (hl:BL all) (k:Nat):Zz all s k<256 ^ k:=by
 unfold Zz;have hp:0<256 ^ k:=Nat.pow_pos (by decide)
 split
 ·refine Nat.lt_of_lt_of_le (Jz ((hl.drop _).take _)) (Nat.pow_le_pow_right (by decide) ?_)
  rw[List.length_take];omega
 ·exact hp
def RawG (B:Nat) (w:World) (rb:Nat) (all:List Int) (s:Nat × Bool) (k:Nat) (e:Ending) (w':World):Prop:=(∃p c,e = .returned (.slice p (Vc all s k).length c)∧uv w w' (.slice p (Vc all s k).length c) (Vc all s k))∧RdG B w' rb all (ux all s k)∧zq (fun k=>k=rb) w w'
theorem Yp {w w':World} {v:Value} {l:List Int} (h:uv w w' v l):∃p c,v = .slice p l.length c:=by
 rcases h.2 with ⟨e1,h0⟩|⟨g,c,cur,e1,_⟩
 ·exact⟨none,0,by rw[e1];simp[h0]⟩
 ·exact⟨_,c,e1⟩
theorem zao {w w':World} {p:Option Addr} {n c:Nat} {l:List Int} (h:uv w w' (.slice p n c) l):p=none→c=0:=fun hp=>by
 rcases h.2 with ⟨e1,h0⟩|⟨g,c',cur,e1,_⟩
 ·injection e1
 ·injection e1 with e1
  rw[hp] at e1
  cases e1
theorem rawG (h:RdG B w rb all s) (hw:B≤w.heap.size) (n:Nat) (hn:n≤4294967296):Calls Tryz.prog 167 #[.pointer (some ⟨rb,0,none⟩),.int .i64 n] w (RawG B w rb all s n):=by
 refine(zgj h hw n hn).mono ?_;rintro e w' ⟨ht,hp⟩;unfold RawG Vc ux RdG
 by_cases hk:s.2=false∧n≤all.length-s.1
 ·rw[if_pos hk] at hp
  rw[if_pos ((jl all s n).2 hk),if_pos ((jl all s n).2 hk)];obtain⟨⟨v,rfl,ho⟩,h2⟩:=hp;obtain⟨p,c,rfl⟩:=Yp (w:=w) (w':=w') ho
  exact⟨⟨p,c,rfl,ho⟩,h2,ht⟩
 ·rw[if_neg hk] at hp
  rw[if_neg (fun e=>hk ((jl all s n).1 e)),if_neg (fun e=>hk ((jl all s n).1 e))]
  exact⟨⟨none,0,hp.1,⟨rfl,Or.inl ⟨rfl,rfl⟩⟩⟩,hp.2,ht⟩
end
set_option maxRecDepth 100000 in
theorem zbg {W:World} {p:Option Addr} {c:Nat} {l:List Int} (h:yc W (.slice p l.length c) l) (hp:p=none→c=0) (hl:l.length≤1000000):Calls Tryz.prog 221 #[.slice p l.length c] W fun e w'=>∃p' c',e = .returned (.slice p' l.length c')∧uv W w' (.slice p' l.length c') l∧W.grownBy w' none:=by
 cases p with
 | none=>
  obtain rfl:=hp rfl;have h0:l = []:=by
   obtain⟨p,cap,e,hc⟩:=h.ex
   rcases hc with h0|⟨a,h1,_⟩
   ·exact h0
   ·injection e with e1;rw[←e1] at h1;cases h1
  subst h0;clear h hp hl;simp only[List.length_nil]
  go_enter Tryz.func221,Tryz.ntmps221
  go_wp2
  go_ret
  exact⟨none,0,rfl,⟨rfl,Or.inl ⟨rfl,rfl⟩⟩,zm _⟩
 | some a=>
  have HR:=zd h;clear h hp
  go_enter Tryz.func221,Tryz.ntmps221
  have hi:∃i,Tryz.prog.info? 5=some i∧i.zero=some (.int .u8 0)∧i.size=1∧i.bytes=1:=by
   have h8:=qf
   cases h7:Tryz.prog.info? 5 with
   | none=>rw[h7] at h8;cases h8
   | some i=>
    rw[h7] at h8;simp only[Option.map_some,Option.some.injEq,Prod.mk.injEq] at h8
    exact⟨i,rfl,h8.1,h8.2.1,h8.2.2⟩
  obtain⟨i0,i1,i2,i3,i4⟩:=hi;have hown:(W.alloc (.cells #[] 5)).ownsRow W.heap.size 5 1 (.slice (some ⟨W.heap.size,0,none⟩) 0 0) 0 []:=⟨rfl,Or.inr ⟨W.heap.size,0,#[],rfl,Nat.le_refl _,heap_alloc_new _ _,Nat.le_refl _,by decide,rfl,rfl⟩⟩
  have HRA:=zd (HR.out.grown (zg W (.cells #[] 5) none) (by simp))
  go_wp2_with (at_builtin;refine Xv _ rfl _ _ 32 5 rfl i0 Tryz.underlying32 i1 i2 i3 i4 W.heap.size (.slice (some ⟨W.heap.size,0,none⟩) 0 0) 0 [] rfl hown (.slice (some a) l.length c) l rfl HRA.out (by omega) (by simp) ?_;intro v' w1 ho hg hb;rw[Nat.zero_add,List.nil_append] at ho;obtain⟨p1,c1,rfl⟩:=Yp (w:=W) (w':=w1) ho;have HO:=zd ho;have HG:=zd hg;clear ho hg hb)
  go_ret
  refine⟨p1,c1,rfl,HO.out,xi (zg W (.cells #[] 5) none) HG.out (fun b hb=>?_)⟩
  have hb2:some W.heap.size=some b:=hb
  injection hb2 with hb2
  omega
end Go.Proofs.YtbcbhlfjgobejaaGreat
