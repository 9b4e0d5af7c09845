/- The vault's Born: the walk. Conditions: none, or as the theorems say. -/
import Derived.Test.YtbcbhlfjgobejaaGreatM31
import Derived.Test.YtbcbhlfjgobejaaGreatM1
set_option linter.unusedSimpArgs false
set_option linter.unusedVariables false
namespace Go.Proofs.YtbcbhlfjgobejaaGreat
set_option maxHeartbeats 200000000
open Go.RowKit Go.Sf Go.Shelf
attribute [local go_sem] Oper.semAt_some
def Vlt.rem (V:Vlt) (k:Int):Vlt × Int:=(({ V with S:=(V.S.rem k).1 }:Vlt).met (V.S.rem k).2,(V.S.rem k).2)
def Vlt.zmt (V:Vlt) (n k:Int):Vlt:={ V with life:=n,at_:=k }
def Vlt.born (V:Vlt) (n:Int):Vlt × Int:=
 if V.broken≠0 then (V,V.broken)
 else if n<1∨4611686018427387904<n then (V,2)
 else if n≤V.life then (V,4)
 else if (V.S.put (76 :: be 8 n.toNat)).2.2≠0 then (V.put 76 (be 8 n.toNat),(V.S.put (76 :: be 8 n.toNat)).2.2)
 else if 0<V.at_ then ((V.put 76 (be 8 n.toNat)).zmt n (V.S.put (76 :: be 8 n.toNat)).2.1).rem V.at_
 else ((V.put 76 (be 8 n.toNat)).zmt n (V.S.put (76 :: be 8 n.toNat)).2.1,0)
def VPost (own:Nat→Prop) (W:World) (vb st db mb:Nat) (P:Vlt × Int) (e:Ending) (w':World):Prop:=
 e = .returned (.int .i64 P.2)∧(∃km vk,VAt own w' vb st db mb km vk P.1)∧zq (fun k=>¬own k) W w'
section
variable {own own' : Nat → Prop} {W : World} {vb st db mb : Nat} {km : List (VID × KpM)} {vk : Nat → Prop} {V : Vlt}
theorem VAt.zmt (h:VAt own W vb st db mb km vk V) (n k:Int):VAt own ((W.setCell ⟨vb,1,none⟩ (.int .i64 n)).setCell ⟨vb,2,none⟩ (.int .i64 k)) vb st db mb km vk (V.zmt n k)∧zq (fun k=>¬own k) W ((W.setCell ⟨vb,1,none⟩ (.int .i64 n)).setCell ⟨vb,2,none⟩ (.int .i64 k)):=by
 obtain⟨h1,t1⟩:=h.set 1 (.int .i64 n) { V with life:=n } rfl rfl rfl
 obtain⟨h2,t2⟩:=h1.set 2 (.int .i64 k) (V.zmt n k) rfl rfl rfl
 exact⟨h2,t1.trans t2⟩
theorem zat (h:VAt own W vb st db mb km vk V) (k:Int) (hf:V.S.d.late.length<1000000):Calls Tryz.prog 30 #[.pointer (some ⟨st,0,none⟩),.int .i64 k] W fun e w'=>e = .returned (.int .i64 (V.S.rem k).2)∧VAt own w' vb st db mb km vk { V with S:=(V.S.rem k).1 }∧zq (fun k=>¬own k) W w':=by
 obtain⟨mb',tb,rv,rb,hS⟩:=h.sr;refine(sremove hS k hf).mono ?_;rintro e w' ⟨rfl,h1,h2⟩
 exact⟨rfl,h.store ⟨_,_,_,_,h1⟩ h2,h2.mono fun k hk e=>hk (Or.inl e)⟩
theorem born_a (h:V.broken≠0) (n:Int):V.born n=(V,V.broken):=by unfold Vlt.born;rw[if_pos h]
theorem zkr (h:V.broken=0) {n:Int} (hn:n<1∨4611686018427387904<n):V.born n=(V,2):=by unfold Vlt.born;rw[if_neg (by simp[h]),if_pos hn]
theorem zgn (h:V.broken=0) {n:Int} (hn:¬(n<1∨4611686018427387904<n)) (hl:n≤V.life):V.born n=(V,4):=by unfold Vlt.born;rw[if_neg (by simp[h]),if_neg hn,if_pos hl]
theorem zgo (h:V.broken=0) {n:Int} (hn:¬(n<1∨4611686018427387904<n)) (hl:¬n≤V.life) {r1 r2:Int} {S2:Sto} (hp:V.S.put (76 :: be 8 n.toNat)=(S2,r1,r2)) (hr:r2≠0):V.born n=(V.put 76 (be 8 n.toNat),r2):=by unfold Vlt.born;rw[if_neg (by simp[h]),if_neg hn,if_neg hl,hp,if_pos hr]
theorem zgp (h:V.broken=0) {n:Int} (hn:¬(n<1∨4611686018427387904<n)) (hl:¬n≤V.life) {r1:Int} {S2:Sto} (hp:V.S.put (76 :: be 8 n.toNat)=(S2,r1,0)) (ha:0<V.at_):V.born n=((V.put 76 (be 8 n.toNat)).zmt n r1).rem V.at_:=by unfold Vlt.born;rw[if_neg (by simp[h]),if_neg hn,if_neg hl,hp,if_neg (by simp),if_pos ha]
theorem zgq (h:V.broken=0) {n:Int} (hn:¬(n<1∨4611686018427387904<n)) (hl:¬n≤V.life) {r1:Int} {S2:Sto} (hp:V.S.put (76 :: be 8 n.toNat)=(S2,r1,0)) (ha:¬0<V.at_):V.born n=((V.put 76 (be 8 n.toNat)).zmt n r1,0):=by unfold Vlt.born;rw[if_neg (by simp[h]),if_neg hn,if_neg hl,hp,if_neg (by simp),if_neg ha]
theorem zik (V:Vlt) (k:Int) (b:List Int):(V.put k b).life=V.life∧(V.put k b).at_=V.at_∧(V.put k b).sh=V.sh∧(V.put k b).S=(V.S.put (k :: b)).1:=by
 unfold Vlt.put Vlt.met
 split <;> exact⟨rfl,rfl,rfl,rfl⟩
set_option maxRecDepth 100000 in
theorem vborn (h:VAt own W vb st db mb km vk V) {n:Int} (hf:V.S.d.late.length+600<1000000) (hf2:∀b,(V.S.put b).1.d.late.length<1000000):Calls Tryz.prog 62 #[.pointer (some ⟨vb,0,none⟩),.int .i64 n] W (VPost own W vb st db mb (V.born n)):=by
 have HB:=zd (zd6 h);have H:=zd h
 by_cases hb0:V.broken=0
 ·rw[hb0] at HB
  by_cases h1:n<1∨4611686018427387904<n
  ·have HP:=zd (zkr hb0 h1)
   clear h hf hf2
   by_cases h2:n<1
   ·clear h1
    go_enter Tryz.func62,Tryz.ntmps62
    go_wp2_with (go_at_call 79;refine HB.out.mono ?_;rintro e w9 ⟨rfl,h5⟩;obtain rfl:W=w9:=h5.symm)
    go_ret
    exact⟨by rw[HP.out];rfl,⟨_,_,by rw[HP.out];exact H.out⟩,zq.refl _ _⟩
   ·have h3:4611686018427387904<n:=h1.resolve_left h2
    clear h1
    go_enter Tryz.func62,Tryz.ntmps62
    go_wp2_with (go_at_call 79;refine HB.out.mono ?_;rintro e w9 ⟨rfl,h5⟩;obtain rfl:W=w9:=h5.symm)
    go_ret
    exact⟨by rw[HP.out];rfl,⟨_,_,by rw[HP.out];exact H.out⟩,zq.refl _ _⟩
  ·by_cases hl:n≤V.life
   ·have HP:=zd (zgn hb0 h1 hl)
    obtain⟨c0,c1,c2,c3,c4,cf⟩:=h.cells;have h2:¬n<1:=fun e=>h1 (Or.inl e)
    have h3:¬4611686018427387904<n:=fun e=>h1 (Or.inr e)
    clear h hf hf2 h1;generalize V.life=lf at *
    go_enter Tryz.func62,Tryz.ntmps62
    go_wp2_with (go_at_call 79;refine HB.out.mono ?_;rintro e w9 ⟨rfl,h5⟩;obtain rfl:W=w9:=h5.symm)
    go_ret
    exact⟨by rw[HP.out];rfl,⟨_,_,by rw[HP.out];exact H.out⟩,zq.refl _ _⟩
   ·have h2:¬n<1:=fun e=>h1 (Or.inl e)
    have h3:¬4611686018427387904<n:=fun e=>h1 (Or.inr e)
    obtain⟨m,rfl⟩:=Int.eq_ofNat_of_zero_le (show 0≤n by omega)
    obtain⟨S2,r1,r2,hp⟩:∃S2 r1 r2,V.S.put (76 :: be 8 (m:Int).toNat)=(S2,r1,r2):=⟨_,_,_,rfl⟩;have hpv:=zik V 76 (be 8 (m:Int).toNat);obtain⟨c0,c1,c2,c3,c4,cf⟩:=h.cells;have HOT:Hid (∀w',W.grownBy w' none→VAt (fun k=>own k∨(W.heap.size≤k∧k<w'.heap.size)) w' vb st db mb km vk V):=zd fun w' hg=>H.out.oth ⟨hg.os,hg.tape,hg.output,hg.size,fun k hk _=>hg.block k hk (by simp)⟩ (fun k hk=>hk.imp id And.left) (fun k hk=>hk.elim (fun e=>Nat.lt_of_lt_of_le (H.out.olt e) hg.size) And.right)
    have hbe:(be 8 (m:Int).toNat).length=8:=yo _ _;have HPU:Hid (∀w' p c,W.grownBy w' none→ye (fun k=>W.heap.size≤k∧k<w'.heap.size) w' (.slice p 8 c) (zi (be 8 m))→Calls Tryz.prog 133 #[.pointer (some ⟨vb,0,none⟩),.int .u8 76,.slice p 8 c] w' fun e w2=>e = .returned (.tuple #[.int .i64 r1,.int .i64 r2])∧VAt own w2 vb st db mb km vk (V.put 76 (be 8 (m:Int).toNat))∧zq (fun k=>¬own k) W w2):=zd fun w' p c hg hr=>by
     have h5:=vput (HOT.out w' hg) (k:=76) (b:=be 8 (m:Int).toNat) (hr.mono fun k hk=>Or.inr hk) ⟨by decide,by decide⟩ (Ze _ _) (by rw[hbe];decide) hf
     unfold PutV at h5;rw[hp] at h5;refine h5.mono ?_;rintro e w2 ⟨rfl,h6,h7⟩
     exact⟨rfl,h6.less fun k hk=>Or.inl hk,(yj hg).trans (h7.mono fun k hk e=>hk (Or.inl e))⟩
    have HF2:Hid ((V.put 76 (be 8 (m:Int).toNat)).S.d.late.length<1000000):=zd (by rw[hpv.2.2.2];exact hf2 _)
    have HAT:Hid ((V.put 76 (be 8 (m:Int).toNat)).at_=V.at_):=zd hpv.2.1;have HD:=zd fun h=>zgo hb0 h1 hl hp h
    have HE:=zd fun (h:r2=0)=>zgp hb0 h1 hl (h ▸ hp)
    have HFF:=zd fun (h:r2=0)=>zgq hb0 h1 hl (h ▸ hp)
    generalize V.put 76 (be 8 (m:Int).toNat)=V1 at *;clear h hf hf2 h1 hp hpv hbe;generalize V.life=lf at *;generalize V.born (m:Int)=VB at *;generalize V.at_=at0 at *
    go_enter Tryz.func62,Tryz.ntmps62
    go_upto_region 8 with (go_at_call 79;refine HB.out.mono ?_;rintro e w9 ⟨rfl,h5⟩;obtain rfl:W=w9:=h5.symm)
    go_upto_region 9 with fail
    have HS0:=zd (WS.start W W (zl _));have HT0:Hid (zq (fun k=>¬k<W.heap.size) W (W.alloc (.cells #[.slice none 0 0] 231))):=zd (yj (zg _ _ none))
    have HRR:Hid (∀w',zq (fun k=>¬k<W.heap.size) W w'→W.grownBy w' none):=zd fun w' ht=>ji (zl W) (own:=fun k=>k<W.heap.size) (fun k hk=>hk) ht
    clear c0 c1 c2 c3 c4 cf;generalize W.alloc (.cells #[.slice none 0 0] 231)=w3 at *;have hm2:m<18446744073709551616:=by omega
    go_upto_region 10 with (go_at_call 132;refine(HS0.out.longN (by simp) m hm2).mono ?_;rintro e w4 ⟨rfl,hs,ht⟩;rw[List.nil_append] at hs;have HS1:=zd hs;have HT1:=zd (HT0.out.trans ht);clear hs ht)
    have HOU:Hid (Calls Tryz.prog 134 #[.pointer (some ⟨W.heap.size,0,none⟩)] w4 fun e w'=>∃p c,e = .returned (.slice p 8 c)∧w4.grownBy w' none∧ye (fun k=>w4.heap.size≤k∧k<w'.heap.size) w' (.slice p 8 c) (zi (be 8 m))):=zd ((HS1.out.outN (by rw[yo];decide)).mono (by
     rintro e w' ⟨v,rfl,hr,hg⟩;have hrp:=uo.rowP (W:=w4) (w:=w') (v:=v) (l:=be 8 m) hr (by rw[yo];decide)
     obtain⟨p,c,rfl,-⟩:=hrp.ex;rw[zx,yo] at hrp ⊢
     exact⟨p,c,rfl,hg,hrp⟩))
    have HGZ:=zd (HRR.out w4 HT1.out);clear HS0 HS1 HT0 HT1 HRR
    go_upto_region 11 with (first
     | (go_at_call 133;refine(HPU.out w13 p c (HGZ.out.trans HG13.out) (HRX.out.mono fun k hk=>⟨Nat.le_trans HGZ.out.size hk.1,hk.2⟩)).mono ?_;rintro e w14 ⟨rfl,hs,ht⟩;have HV14:=zd hs;have HT14:=zd ht;clear hs ht)
     | (go_at_call 134;refine HOU.out.mono ?_;rintro e w13 ⟨p,c,rfl,hg,hr⟩;have HG13:=zd hg;have HRX:=zd hr;clear hg hr))
    clear HRX HOU HPU
    by_cases hr:r2=0
    ·subst hr
     obtain⟨c0,c1,c2,c3,c4,cf⟩:=HV14.out.cells;rw[HAT.out] at c2;have HLV:=zd (HV14.out.zmt (m:Int) r1)
     go_upto_region 15 with fail
     clear c0 c1 c2 c3 c4 cf;obtain⟨c0,c1,c2,c3,c4,cf⟩:=HLV.out.1.cells;generalize (w14.setCell ⟨vb,1,none⟩ (.int .i64 (m:Int))).setCell ⟨vb,2,none⟩ (.int .i64 r1)=w15 at *
     by_cases ha:0<at0
     ·have HVB:=zd (HE.out rfl ha)
      have HRM:=zd (zat HLV.out.1 at0 (by have:=HF2.out;exact this))
      clear HE HFF HD;have HRV:Hid ((V1.zmt (m:Int) r1).rem at0=(({ V1.zmt (m:Int) r1 with S:=((V1.zmt (m:Int) r1).S.rem at0).1 }:Vlt).met ((V1.zmt (m:Int) r1).S.rem at0).2,((V1.zmt (m:Int) r1).S.rem at0).2)):=zd rfl
      generalize (V1.zmt (m:Int) r1).rem at0=VR at *;generalize ({ V1.zmt (m:Int) r1 with S:=((V1.zmt (m:Int) r1).S.rem at0).1 }:Vlt)=V3 at *
      generalize ((V1.zmt (m:Int) r1).S.rem at0).2=r3 at *
      go_wp2_with (first
       | (go_at_call 135;refine(vmet HV16.out r3).mono ?_;rintro e w17 ⟨rfl,hs,ht⟩;have HV17:=zd hs;have HT17:=zd ht;clear hs ht)
       | (go_at_call 30;refine HRM.out.mono ?_;rintro e w16 ⟨rfl,hs,ht⟩;have HV16:=zd hs;have HT16:=zd ht;clear hs ht))
      go_ret
      exact⟨by rw[HVB.out,HRV.out];rfl,⟨_,_,by rw[HVB.out,HRV.out];exact HV17.out⟩,HT14.out.trans (HLV.out.2.trans (HT16.out.trans HT17.out))⟩
     ·have HVB:=zd (HFF.out rfl (by omega))
      clear HE HFF HD
      go_wp2_with fail
      go_ret
      exact⟨by rw[HVB.out];rfl,⟨_,_,by rw[HVB.out];exact HLV.out.1⟩,HT14.out.trans HLV.out.2⟩
    ·have HVB:=zd (HD.out hr)
     have hb:(r2 != 0)=true:=by simp[hr]
     clear HE HFF HD
     go_wp2_with fail
     go_ret
     exact⟨by rw[HVB.out];rfl,⟨_,_,by rw[HVB.out];exact HV14.out⟩,HT14.out⟩
 ·have HP:=zd (born_a hb0 n)
  have hb1:(V.broken != 0)=true:=by simp[hb0]
  clear h hf hf2;generalize V.broken=br at *
  go_enter Tryz.func62,Tryz.ntmps62
  go_wp2_with (go_at_call 79;refine HB.out.mono ?_;rintro e w9 ⟨rfl,h5⟩;obtain rfl:W=w9:=h5.symm)
  go_ret
  exact⟨by rw[HP.out];rfl,⟨_,_,by rw[HP.out];exact H.out⟩,zq.refl _ _⟩
end
attribute [local go_sem] Oper.semAt_some
def noKp:KpM:=⟨none,0,none,0,⟨[],0,0,[]⟩,0⟩
theorem zlt:uq noKp=ut:=rfl
def jm (km:List (VID × KpM)) (i:VID):KpM:=(zr km i).getD noKp
def noSh:ShM × Int:=(⟨[],0,0,[]⟩,0)
def Vlt.look (V:Vlt) (i:VID):ShM × Int:=(zr V.sh i).getD noSh
theorem look_kp {W:World} {mb:Nat} {km:List (VID × KpM)} (h:yh W mb yt uq km) (i:VID):(Instr.lookup 221 (.map (some mb)) (yt i) true).run Tryz.prog W = .ok (.tuple #[uq (jm km i),.bool (zr km i).isSome]) W:=by
 rw[h.lookup keID Tryz.underlying221 (Za W) i true,←zlt,if_pos rfl];unfold jm
 cases zr km i <;> rfl
theorem jf {o:Oper} {a:Act} {w:World} {mb:Nat} {km:List (VID × KpM)} {i:VID} (x y:Operand) (hop:o.op=Op.lookup 221 x y true) (hx:a.eval x = .map (some mb)) (hy:a.eval y=yt i) {v:Value} (hv:Value.tuple #[uq (jm km i),.bool (zr km i).isSome]=v) (h:yh w mb yt uq km):(execOp a.eval o).run Tryz.prog w = .ok (.value v) w:=
 ux x y true hop hx hy (by rw[←hv];exact look_kp h i)
section
variable {own own' : Nat → Prop} {W : World} {vb st db mb : Nat} {km : List (VID × KpM)} {vk : Nat → Prop} {V : Vlt}
theorem zjg {α β:Type} (f:α→β) (m:List (VID × α)) (k:VID):zr (m.map fun r=>(r.1,f r.2)) k=(zr m k).map f:=by
 induction m with
 | nil=>rfl
 | cons p r ih=>
  obtain⟨a,b⟩:=p;simp only[List.map_cons,zr]
  split
  ·rfl
  ·exact ih
theorem VAt.look (h:VAt own W vb st db mb km vk V) (i:VID):V.look i=((jm km i).s,(jm km i).k)∧(zr V.sh i).isSome=(zr km i).isSome:=by
 have e:=zjg (fun (p:KpM)=>(p.s,p.k)) km i
 unfold Vlt.look jm;rw[h.she];rw[e]
 cases zr km i <;> exact⟨rfl,rfl⟩
structure KpIn (P:Nat→Prop) (W:World) (x:KpM):Prop where
 key:ye P W (.slice x.pk x.s.key.length x.ck) (zi x.s.key)
 row:ye P W (.slice x.pr x.s.row.length x.cr) (zi x.s.row)
 lk:x.s.key.length≤64
 lr:x.s.row.length≤65536
 bl:BL x.s.key∧BL x.s.row
theorem Uy {P:Nat→Prop} {p:Option Addr} {n c:Nat} {l:List Int} (h:ye P W (.slice p n c) (zi l)):yc W (.slice p n c) l∧(Value.slice p n c = .slice none 0 0→l = []):=by
 refine⟨h.raw,fun e=>?_⟩
 obtain⟨p',cap,e1,_,_,e2⟩:=h.ex
 rcases e2 with e2|⟨a,e2,_⟩
 ·simpa[zi] using e2
 ·rw[e1,e2] at e;cases e
theorem VAt.kp (h:VAt own W vb st db mb km vk V) (i:VID):KpIn (fun k=>vk k∧k≠vb∧k≠mb) W (jm km i):=by
 unfold jm
 cases hg:zr km i with
 | none=>exact⟨zfl _ _,zfl _ _,by decide,by decide,⟨fun x hx=>by simp[noKp] at hx,fun x hx=>by simp[noKp] at hx⟩⟩
 | some x=>
  have:=h.rows _ (um hg)
  exact⟨this.key,this.row,this.may.k2,this.may.r,this.bl⟩
def zeb (W:World) (s:ShM) (is:Bool) (e:Ending) (w':World):Prop:=
 ∃qk dk qr dr,e = .returned (.tuple #[shV qk dk qr dr s,.bool is])∧W.grownBy w' none∧ye (fun k=>W.heap.size≤k∧k<w'.heap.size) w' (.slice qk s.key.length dk) (zi s.key)∧ye (fun k=>W.heap.size≤k∧k<w'.heap.size) w' (.slice qr s.row.length dr) (zi s.row)
set_option maxRecDepth 100000 in
theorem vget (h:VAt own W vb st db mb km vk V) (i:VID):Calls Tryz.prog 75 #[.pointer (some ⟨vb,0,none⟩),yt i] W (zeb W (V.look i).1 (zr V.sh i).isSome):=by
 have hl:=h.look i;rw[hl.1,hl.2];have HM:=zd h.mp;have hkp:=h.kp i;obtain⟨c0,-,-,c3,-,-⟩:=h.cells;have hvb:=h.vlt h.vvb;have hmb:=h.vlt h.vmb;have HIF:Hid (∃x,zr km i=x):=zd ⟨_,rfl⟩;generalize hkx:jm km i=X at *;have HKX:=zd hkx;clear hkx hl h HIF;obtain⟨pk,ck,pr,cr,s,k⟩:=X;have hlt:∀k,(vk k∧k≠vb∧k≠mb)→True:=fun _ _=>trivial
 have HCL:Hid (∀w,W.grownBy w none→Calls Tryz.prog 137 #[.agg #[.slice pk s.key.length ck,.int .i64 s.zms,.int .i64 s.node,.slice pr s.row.length cr]] w fun e w'=>∃qk dk qr dr,e = .returned (.agg #[.slice qk s.key.length dk,.int .i64 s.zms,.int .i64 s.node,.slice qr s.row.length dr])∧w.grownBy w' none∧ye (fun k=>w.heap.size≤k∧k<w'.heap.size) w' (.slice qk s.key.length dk) (zi s.key)∧ye (fun k=>w.heap.size≤k∧k<w'.heap.size) w' (.slice qr s.row.length dr) (zi s.row)):=zd fun w hg=>by
  have k1:=Uy hkp.key;have k2:=Uy hkp.row
  exact zbw (k1.1.grown hg (by simp)) (k2.1.grown hg (by simp)) k1.2 k2.2 (by have:=hkp.lk;simp only at this;omega) (by have:=hkp.lr;simp only at this;omega)
 have HLL:Hid (s.key.length≤64∧s.row.length≤65536):=zd ⟨hkp.lk,hkp.lr⟩;clear hkp hlt;obtain⟨key,zms,node,row⟩:=s;unfold zeb shV;simp only at HCL HLL ⊢;obtain⟨ik,iv⟩:=i;have HI:Hid (yt ⟨ik,iv⟩ = .agg #[.string ik,.int .i64 iv]):=zd rfl;rw[HI.out];generalize hIS:(zr km ⟨ik,iv⟩).isSome=is at *;have HIS:=zd hIS;clear hIS;generalize hla:key.length=la at *;generalize hma:row.length=ma at *;have HLA:=zd hla;have HMA:=zd hma;clear hla hma;have HVV:Hid (Value.tuple #[uq (jm km ⟨ik,iv⟩),.bool (zr km ⟨ik,iv⟩).isSome] = .tuple #[.agg #[.slice pk la ck,.int .i64 zms,.int .i64 node,.slice pr ma cr,.int .i64 k],.bool is]):=zd (by rw[HKX.out,HIS.out,←HLA.out,←HMA.out];rfl)
 go_enter Tryz.func75,Tryz.ntmps75
 go_upto_region 3 with fail
 have hga:=(zg W (.cells #[.string ik,.int .i64 iv] 109) none).trans (zg (W.alloc (.cells #[.string ik,.int .i64 iv] 109)) (.cells #[.slice none 0 0,.int .i64 0,.int .i64 0,.slice none 0 0] 97) none);have ha1:=((zg (W.alloc (.cells #[.string ik,.int .i64 iv] 109)) (.cells #[.slice none 0 0,.int .i64 0,.int .i64 0,.slice none 0 0] 97) none).block W.heap.size (by simp) (by simp)).trans (heap_alloc_new W (.cells #[.string ik,.int .i64 iv] 109))
 have hb1:=heap_alloc_new (W.alloc (.cells #[.string ik,.int .i64 iv] 109)) (.cells #[.slice none 0 0,.int .i64 0,.int .i64 0,.slice none 0 0] 97);rw[show(W.alloc (.cells #[.string ik,.int .i64 iv] 109)).heap.size=W.heap.size+1 by simp] at hb1
 have HGA:=zd hga;have HB1:=zd hb1;have a0:=(zh ha1 0).trans (show _=some (Value.string ik) from rfl)
 have a1:=(zh ha1 1).trans (show _=some (Value.int .i64 iv) from rfl)
 replace c3:=hga.cell c3 (by simp)
 clear hga ha1 hb1 c0;generalize hb2:W.heap.size+1=b2 at *;generalize hb1:W.heap.size=b1 at *;have HBB:Hid (W.heap.size=b1∧b1+1=b2):=zd ⟨hb1,hb2⟩;have HMM:=zd (HM.out.kept HGA.out (by simp))
 clear hb1 hb2 HM;generalize (W.alloc (.cells #[.string ik,.int .i64 iv] 109)).alloc (.cells #[.slice none 0 0,.int .i64 0,.int .i64 0,.slice none 0 0] 97)=W1 at *;refine wp_region_held_drew (S:=fun w=>w.cell? ⟨vb,3,none⟩=some (.map (some mb))∧w.cell? ⟨b1,0,none⟩=some (.string ik)∧w.cell? ⟨b1,1,none⟩=some (.int .i64 iv)∧yh w mb yt uq km) (by kernel_rfl) ⟨c3,a0,a1,HMM.out⟩ (fun hHeld=>?_)
 refine tk (i:=0) (oi:=⟨some 12,Op.move (Operand.tmp 0),_,_,_,none⟩) (v:=?_) rfl hHeld ?_ ?_;rotate_left
 ·rintro w ⟨s1,s2,s3,s4⟩;go_simp;try with_reducible rfl
 (try simp only[Act.put,za,zb,zc])
 refine tk (i:=1) (oi:=⟨some 13,Op.nilCheck (Operand.tmp 12),_,_,_,none⟩) (v:=?_) rfl hHeld ?_ ?_;rotate_left
 ·rintro w ⟨s1,s2,s3,s4⟩;go_simp;try with_reducible rfl
 (try simp only[Act.put,za,zb,zc])
 refine tk (i:=2) (oi:=⟨some 14,Op.fieldAddr 224 (Operand.tmp 13) 3,_,_,_,none⟩) (v:=?_) rfl hHeld ?_ ?_;rotate_left
 ·rintro w ⟨s1,s2,s3,s4⟩;go_simp;try with_reducible rfl
 (try simp only[Act.put,za,zb,zc])
 refine tk (i:=3) (oi:=⟨some 15,Op.load 221 (Operand.tmp 14),_,_,_,none⟩) (v:=?_) rfl hHeld ?_ ?_;rotate_left
 ·rintro w ⟨s1,s2,s3,s4⟩;go_simp;try with_reducible rfl
 (try simp only[Act.put,za,zb,zc])
 refine tk (i:=4) (oi:=⟨some 16,Op.load 109 (Operand.tmp 3),_,_,_,none⟩) (v:=?_) rfl hHeld ?_ ?_;rotate_left
 ·rintro w ⟨s1,s2,s3,s4⟩;go_simp;try with_reducible rfl
 (try simp only[Act.put,za,zb,zc])
 refine wpAnyH_take (i:=5) (oi:=⟨some 17,Op.lookup 221 (Operand.tmp 15) (Operand.tmp 16) true,_,_,_,none⟩) (v:=.tuple #[.agg #[.slice pk la ck,.int .i64 zms,.int .i64 node,.slice pr ma cr,.int .i64 k],.bool is]) rfl (by kernel_rfl) (by kernel_rfl) (by kernel_rfl) (fun _ _ _ h=>h) (Or.inl ⟨by rfl,fun w hSw=>jf (i:=⟨ik,iv⟩) _ _ (by rfl) (by rfl) (by rfl) HVV.out hSw.2.2.2⟩) hHeld ?_
 (try simp only[Act.put,za,zb,zc])
 refine tk (i:=6) (oi:=⟨some 11,Op.move (Operand.tmp 17),_,_,_,none⟩) (v:=?_) rfl hHeld ?_ ?_;rotate_left
 ·rintro w -;go_simp;try with_reducible rfl
 (try simp only[Act.put,za,zb,zc])
 refine tk (i:=7) (oi:=⟨some 18,Op.extract (Operand.tmp 11) 0,_,_,_,none⟩) (v:=?_) rfl hHeld ?_ ?_;rotate_left
 ·rintro w -;go_simp;try with_reducible rfl
 (try simp only[Act.put,za,zb,zc])
 refine tk (i:=8) (oi:=⟨some 19,Op.extract (Operand.tmp 11) 1,_,_,_,none⟩) (v:=?_) rfl hHeld ?_ ?_;rotate_left
 ·rintro w -;go_simp;try with_reducible rfl
 (try simp only[Act.put,za,zb,zc])
 have hg5:=zg W1.drew (.cells ut.cells 226) none;have hg6:=zg W1.drew (.cells #[.slice pk la ck,.int .i64 zms,.int .i64 node,.slice pr ma cr,.int .i64 k] 226) none;refine wpAnyH_ready (rs:=[9]) (by kernel_rfl) (by simp) ?_
 refine AllReadyH.cons (o:=⟨some 6,Op.alloc 226,_,_,_,none⟩) rfl (fun K hK=>?_) AllReadyH.nil
 refine xy rfl (ul 226 rfl Za) ?_;refine hK.out _ _ ⟨hg5.cell hHeld.1 (by simp),hg5.cell hHeld.2.1 (by simp),hg5.cell hHeld.2.2.1 (by simp),hHeld.2.2.2.kept hg5 (by simp)⟩ (fun hHeld=>?_)
 clear hK K
 (try simp only[Act.put,za,zb,zc])
 refine wpAnyH_ready (rs:=[10]) (by kernel_rfl) (by simp) ?_
 refine AllReadyH.cons (o:=⟨none,Op.store 226 (Operand.tmp 6) (Operand.tmp 18),_,_,_,none⟩) rfl (fun K hK=>?_) AllReadyH.nil
 refine xp rfl (Yr 226 _ _ rfl _ #[.slice pk la ck,.int .i64 zms,.int .i64 node,.slice pr ma cr,.int .i64 k] _ rfl rfl (by kernel_rfl) rfl (by simp[Value.oneCell'])) ?_
 refine hK.out _ _ ⟨hg6.cell c3 (by simp),hg6.cell a0 (by simp),hg6.cell a1 (by simp),yh.kept (HMM.out.kept (zm (zl _)) (by simp)) hg6 (by simp)⟩ (fun hHeld=>?_)
 clear hK K
 (try simp only[Act.put,za,zb,zc])
 refine tk (i:=11) (oi:=⟨some 7,Op.assign (Operand.tmp 19),_,_,_,none⟩) (v:=?_) rfl hHeld ?_ ?_;rotate_left
 ·rintro w -;go_simp;try with_reducible rfl
 (try simp only[Act.put,za,zb,zc])
 refine wpAnyH_done (by kernel_rfl) ?_ _
 have d5:=heap_alloc_new W1.drew (.cells #[.slice pk la ck,.int .i64 zms,.int .i64 node,.slice pr ma cr,.int .i64 k] 226);have HB2:Hid ((W1.drew.alloc (.cells #[.slice pk la ck,.int .i64 zms,.int .i64 node,.slice pr ma cr,.int .i64 k] 226)).heap[b2]? = some (.cells #[.slice none 0 0,.int .i64 0,.int .i64 0,.slice none 0 0] 97 (0,0))):=zd ((hg6.block b2 (Array.getElem?_eq_some_iff.1 HB1.out).1 (by simp)).trans HB1.out)
 have HG6:=zd (zt (zm HGA.out) (.cells #[.slice pk la ck,.int .i64 zms,.int .i64 node,.slice pr ma cr,.int .i64 k] 226));have d0:=(zh d5 0).trans (show _=some (Value.slice pk la ck) from rfl)
 have d1:=(zh d5 1).trans (show _=some (Value.int .i64 zms) from rfl)
 have d2:=(zh d5 2).trans (show _=some (Value.int .i64 node) from rfl)
 have d3:=(zh d5 3).trans (show _=some (Value.slice pr ma cr) from rfl)
 clear hg5 hg6 d5 hHeld HB1 c3 a0 a1 HMM;generalize hbb:W1.drew.heap.size=bb at *;clear hbb;generalize W1.drew.alloc (.cells #[.slice pk la ck,.int .i64 zms,.int .i64 node,.slice pr ma cr,.int .i64 k] 226)=w6 at *
 go_upto_region 4 with fail
 go_wp2_with (go_at_call 137;refine(HCL.out w6 HG6.out).mono ?_;rintro e w7 ⟨qk,dk,qr,dr,rfl,hg,hk,hr⟩;have HB7:=zd ((hg.block b2 (Array.getElem?_eq_some_iff.1 HB2.out).1 (by simp)).trans HB2.out);have HG7:=zd hg;have HK7:=zd hk;have HR7:=zd hr;obtain⟨x0,x1,x2,x3,xf⟩:=xa HB7.out;clear hg hk hr)
 have hfin:=set4 HB7.out (.slice qk la dk) (.int .i64 zms) (.int .i64 node) (.slice qr ma dr);refine bodyPost_ret (vc rfl _ _ b2 97 #[.slice qk la dk,.int .i64 zms,.int .i64 node,.slice qr ma dr] (0,0) _ rfl hfin rfl Tryz.underlying97 (by kernel_rfl)) rfl ?_
 have hw2:W.heap.size≤b2:=by have:=HBB.out;omega
 have hz6:W.heap.size≤w6.heap.size:=HG6.out.size;have hb6:b2<w6.heap.size:=(Array.getElem?_eq_some_iff.1 HB2.out).1;refine⟨qk,dk,qr,dr,rfl,jx (HG6.out.trans HG7.out) hw2,?_,?_⟩
 ·refine(ye.turn HK7.out fun k hk=>?_).mono fun k hk=>⟨by omega,by show k<(Zs w7 b2 (.slice qk la dk) (.int .i64 zms) (.int .i64 node) (.slice qr ma dr)).heap.size;rw[Qf];exact hk.2⟩
  exact(Ys w7 b2 _ _ _ _).block k hk.2 (fun e=>by have:=Option.some.inj e;omega)
 ·refine(ye.turn HR7.out fun k hk=>?_).mono fun k hk=>⟨by omega,by show k<(Zs w7 b2 (.slice qk la dk) (.int .i64 zms) (.int .i64 node) (.slice qr ma dr)).heap.size;rw[Qf];exact hk.2⟩
  exact(Ys w7 b2 _ _ _ _).block k hk.2 (fun e=>by have:=Option.some.inj e;omega)
end
end Go.Proofs.YtbcbhlfjgobejaaGreat
