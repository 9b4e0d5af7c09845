/- works() of chapter 20: the walk. Conditions: none, or as the theorems say. -/
import Derived.Test.YtbcbhlfjgobejaaGreatM43
import Derived.Test.YtbcbhlfjgobejaaGreatM17
set_option linter.unusedSimpArgs false
set_option linter.unusedVariables false
namespace Go.Proofs.YtbcbhlfjgobejaaGreat
set_option maxHeartbeats 200000000
open Go.RowKit Go.Sf Go.Shelf
attribute [local go_sem] Oper.semAt_some
def VQ (W:World) (vb db:Nat) (V:Vlt) (w:World):Prop:=∃own,VR W own vb db V w
section
variable {W w w1 w' : World} {vb db : Nat} {V : Vlt} {al : List (Int × List Int)} {N : Nat} {s : ShM}
theorem VQ.grown (h:VQ W vb db V w) (hg:w.grownBy w' none):VQ W vb db V w':=by
 obtain⟨own,h⟩:=h
 exact⟨own,h.grown hg⟩
theorem VQ.gr (h:VQ W vb db V w):W.grownBy w none:=by
 obtain⟨own,h⟩:=h
 exact h.gr
theorem VJ.late (h:VJ V N al):V.S.d.late.length≤5000:=by
 obtain⟨-,blk,hi⟩:=h;rw[hi.inv.late]
 exact Nat.zero_le _
theorem VQ.put (h:VQ W vb db V w) (hj:VJ V N al) (hg:w.grownBy w1 none) {pk pr:Option Addr} {ck cr:Nat} (hk:ye (fun k=>w.heap.size≤k∧k<w1.heap.size) w1 (.slice pk s.key.length ck) (zi s.key)) (hr:ye (fun k=>w.heap.size≤k∧k<w1.heap.size) w1 (.slice pr s.row.length cr) (zi s.row)) (hbl:BL s.key∧BL s.row) (hlen:s.key.length≤1000000∧s.row.length≤1000000) (hv2:s.zms≤9223372036854775807) {V':Vlt} {r:Int} (he:V.putS s=(V',r)) :
  Calls Tryz.prog 64 #[.pointer (some ⟨vb,0,none⟩),shV pk ck pr cr s] w1 fun e w'=>e = .returned (.int .i64 r)∧VQ W vb db V' w':=by
 obtain⟨own,h⟩:=h;refine((h.more hg).put hj.late (hk.mono fun k hk=>Or.inr hk) (hr.mono fun k hk=>Or.inr hk) hbl hlen hv2).mono ?_
 rw[he];rintro e w' ⟨rfl,h1,-⟩
 exact⟨rfl,_,h1⟩
theorem VQ.born (h:VQ W vb db V w) (hj:VJ V N al) {n:Int} {V':Vlt} {r:Int} (he:V.born n=(V',r)):Calls Tryz.prog 62 #[.pointer (some ⟨vb,0,none⟩),.int .i64 n] w fun e w'=>e = .returned (.int .i64 r)∧VQ W vb db V' w':=by
 obtain⟨own,h⟩:=h;refine(h.born hj.late n).mono ?_;rw[he];rintro e w' ⟨rfl,h1,-⟩
 exact⟨rfl,_,h1⟩
theorem VQ.drop (h:VQ W vb db V w) (hj:VJ V N al) {i:VID} {V':Vlt} {r:Int} (he:V.drop i=(V',r)):Calls Tryz.prog 69 #[.pointer (some ⟨vb,0,none⟩),yt i] w fun e w'=>e = .returned (.int .i64 r)∧VQ W vb db V' w':=by
 obtain⟨own,h⟩:=h;refine(h.drop hj.late i).mono ?_;rw[he];rintro e w' ⟨rfl,h1,-⟩
 exact⟨rfl,_,h1⟩
theorem zab {n:Int} {W w1:World} {db:Nat} (hn:0≤n∧n≤4096) (hg:W.grownBy w1 none) (hd:∀own:Nat→Prop,(∀k,own k→k<W.heap.size)→vq own w1 db (Dk.new n)) :
  Calls Tryz.prog 61 #[.pointer (some ⟨db,0,none⟩)] w1 fun e w'=>∃vb V,e = .returned (.tuple #[.pointer (some ⟨vb,0,none⟩),.int .i64 0])∧VR W (fun k=>k<W.heap.size) vb db V w'∧VJ V n.toNat []∧V.S.next=1:=by
 have h:DR W (fun k=>k<W.heap.size) db (Dk.new n) w1:=⟨hd _ fun k hk=>hk,fun k hk=>hk,hg⟩
 have hnn:(Dk.new n).n=n.toNat:=by show(min 4096 (max 0 n)).toNat=_;omega
 have gd:vl zz (fun i=>scrub zz (bk (Dk.new n).now i)) (Dk.new n).n [] (fun _=>[]) 1:=zk5 _ fun i _=>by show scrub zz ya=_;exact zbt
 refine(h.vopen_ (X:=X0) (zhv n) rfl (fun i _=>rfl) (by rw[hnn];omega) (by decide) gd ⟨by simp,rfl⟩).mono ?_
 rintro e w' ⟨vb,V,al,blk,rfl,h1,h2,h3,h4,h5,h6,-,h7,h8⟩;obtain rfl:=h8 (by simp)
 rw[hnn] at h7
 exact⟨vb,V,rfl,h1,⟨h7,blk,h2⟩,by have:=h7.n1;omega⟩
theorem VQ.reopen (h:VQ W vb db V w) (hj:VJ V N al) (hx:V.S.next≤1000) (hN:N≤4096):Calls Tryz.prog 61 #[.pointer (some ⟨db,0,none⟩)] w fun e w'=>∃vb2 V2 al2,e = .returned (.tuple #[.pointer (some ⟨vb2,0,none⟩),.int .i64 0])∧VQ W vb2 db V2 w'∧VJ V2 N al2∧vx al2=vx al∧V2.S.next≤V.S.next:=by
 obtain⟨own,h⟩:=h;obtain⟨hst,blk,hi⟩:=hj;have hn:=hst.n;have g:vl zz (fun i=>scrub zz (bk V.S.d.now i)) V.S.d.n al blk V.S.next:=hi.inv.good.same fun i hi2=>Zj (hi.inv.good.clean i hi2)
 refine(h.dr.vopen_ hst.sd hi.inv.late hi.inv.st (by omega) hx g hi.x).mono ?_
 rintro e w' ⟨vb2,V2,al2,blk2,rfl,h1,h2,h3,-,h5,-,-,h7,-⟩;rw[hn] at h7
 exact⟨vb2,V2,al2,rfl,⟨own,h1⟩,⟨h7,blk2,h2⟩,h3,h5⟩
theorem VQ.steps (h:VQ W vb db V w):Calls Tryz.prog 113 #[.pointer (some ⟨db,0,none⟩)] w fun e w'=>e = .returned (.int .i64 (wrap64 V.S.d.steps))∧w'=w:=by
 obtain⟨own,h⟩:=h
 exact dsteps h.dr.rep
theorem VQ.get (h:VQ W vb db V w) (hj:VJ V N al) {i:VID} (hx:(vx al).sh i=some s):Calls Tryz.prog 75 #[.pointer (some ⟨vb,0,none⟩),yt i] w (zeb w s true):=by
 obtain⟨own,h⟩:=h;obtain⟨-,blk,hi⟩:=hj;rw[hi.xsh] at hx;have h1:=h.get i
 cases e:zr V.sh i with
 | none=>rw[e] at hx;cases hx
 | some p=>
  rw[e] at hx h1
  injection hx with hx
  unfold Vlt.look at h1;rw[e] at h1;simp only[Option.getD_some,Option.isSome_some] at h1;replace hx:p.1=s:=hx;rw[hx] at h1
  exact h1
theorem VQ.life (h:VQ W vb db V w) (hj:VJ V N al):Calls Tryz.prog 76 #[.pointer (some ⟨vb,0,none⟩)] w fun e w'=>e = .returned (.int .i64 (vx al).life)∧w'=w:=by
 obtain⟨own,h⟩:=h;obtain⟨-,blk,hi⟩:=hj;rw[hi.xlife]
 exact h.life
theorem VQ.ids (h:VQ W vb db V w) (hj:VJ V N al) {l:List ShM} (hx:XL (vx al) l) (hl:l.length≤1000):Calls Tryz.prog 78 #[.pointer (some ⟨vb,0,none⟩)] w fun e w'=>∃p c,e = .returned (.slice p l.length c)∧w.grownBy w' none:=by
 obtain⟨own,h⟩:=h;obtain⟨-,blk,hi⟩:=hj;have hn:=(hi.same hx).2.1;have h1:=h.ids (by omega)
 rw[hn] at h1
 exact h1
end
def s20:ShM:=⟨[97],1,2,[120]⟩
theorem zd2:zb4 s20:=by constructor <;> decide
theorem zbr:BL s20.key∧BL s20.row:=by
 constructor
 ·intro b hb
  simp[s20] at hb;omega
 ·intro b hb
  simp[s20] at hb;omega
set_option maxRecDepth 100000 in
theorem zgh (W:World):Calls Tryz.prog 60 #[] W fun e w'=>e = .returned (.bool true)∧W.grownBy w' none:=by
 have HN:=zd (dnew 9 W);have HRW:Hid (∀w,Calls Tryz.prog 77 #[.string { data:=#[120] }] w (NewSh w s20)):=zd fun w=>zjv w (b:=[120]) zbr.2 (by decide)
 go_enter Tryz.func60,Tryz.ntmps60
 go_upto_region 3 with (first
  | (go_at_call 19;refine HN.out.mono ?_;rintro e w1 ⟨db,rfl,hg1,-,hd1⟩;have HOP:=zd (zab (W:=W) (n:=9) (by decide) hg1 hd1);clear hg1 hd1)
  | (go_at_call 61;refine HOP.out.mono ?_;rintro e w2 ⟨vb,V0,rfl,hv,hj0,hn0⟩;have HV0:=zd (show VQ W vb db V0 w2 from ⟨_,hv⟩);clear hv HOP))
 have hl0:V0.life=0:=by
  obtain⟨-,blk,hi⟩:=hj0
  exact hi.lfE
 have hb0:V0.broken=0:=by
  obtain⟨-,blk,hi⟩:=hj0
  exact hi.brk
 have hms:=(Zg s20 zd2.v2).2 zd2;have e1:V0.putS s20=(V0,4):=zha hb0 hms hl0;obtain⟨b1,al1,j1,x1,n1⟩:=hj0.born (n:=3) (by omega) (by decide) (by decide) (by omega) (by decide)
 obtain⟨V1,hV1⟩:∃V1,V0.born 3=(V1,0):=⟨_,Prod.ext rfl b1⟩;rw[hV1] at j1 n1;simp only at j1 n1;have hl1:V1.life=3:=by
  obtain⟨-,blk,hi⟩:=j1;rw[←hi.xlife,x1]
  rfl
 have xl1:XL (vx al1) []:=by rw[x1];exact zmm.born 3
 have s1:=j1.sum xl1 (by rw[x1];decide)
 obtain⟨b2,al2,j2,x2,n2⟩:=j1.put (s:=s20) (by omega) zd2 zbr (by omega) (by rw[s1];decide)
 obtain⟨V2,hV2⟩:∃V2,V1.putS s20=(V2,0):=⟨_,Prod.ext rfl b2⟩;rw[hV2] at j2 n2;simp only at j2 n2;have xl2:XL (vx al2) [s20]:=by rw[x2];exact xl1.put s20
 have hl2:V2.life=3:=by
  obtain⟨-,blk,hi⟩:=j2;rw[←hi.xlife,x2,x1]
  rfl
 have e3:V2.putS s20=(V2,0):=by
  obtain⟨-,blk,hi⟩:=j2;have h1:=(xl2.sh (idS s20) s20).2 ⟨by simp,rfl⟩
  rw[hi.xsh] at h1
  cases e:zr V2.sh (idS s20) with
  | none=>rw[e] at h1;cases h1
  | some p=>
   rw[e] at h1
   injection h1 with h1
   exact zd0 hi.brk hms (by omega) ⟨by rw[e];rfl,by unfold Vlt.look;rw[e];exact h1⟩
 have HP1:Hid (∀w w1 pk ck pr cr,VQ W vb db V0 w→w.grownBy w1 none→ye (fun k=>w.heap.size≤k∧k<w1.heap.size) w1 (.slice pk s20.key.length ck) (zi s20.key)→ye (fun k=>w.heap.size≤k∧k<w1.heap.size) w1 (.slice pr s20.row.length cr) (zi s20.row)→Calls Tryz.prog 64 #[.pointer (some ⟨vb,0,none⟩),shV pk ck pr cr s20] w1 fun e w'=>e = .returned (.int .i64 4)∧VQ W vb db V0 w'):=zd fun w w1 pk ck pr cr h hg hk hr=>h.put hj0 hg hk hr zbr (by decide) (by decide) e1
 have HB1:Hid (∀w,VQ W vb db V0 w→Calls Tryz.prog 62 #[.pointer (some ⟨vb,0,none⟩),.int .i64 3] w fun e w'=>e = .returned (.int .i64 0)∧VQ W vb db V1 w'):=zd fun w h=>h.born hj0 hV1
 have HP2:Hid (∀w w1 pk ck pr cr,VQ W vb db V1 w→w.grownBy w1 none→ye (fun k=>w.heap.size≤k∧k<w1.heap.size) w1 (.slice pk s20.key.length ck) (zi s20.key)→ye (fun k=>w.heap.size≤k∧k<w1.heap.size) w1 (.slice pr s20.row.length cr) (zi s20.row)→Calls Tryz.prog 64 #[.pointer (some ⟨vb,0,none⟩),shV pk ck pr cr s20] w1 fun e w'=>e = .returned (.int .i64 0)∧VQ W vb db V2 w'):=zd fun w w1 pk ck pr cr h hg hk hr=>h.put j1 hg hk hr zbr (by decide) (by decide) hV2
 have HP3:Hid (∀w w1 pk ck pr cr,VQ W vb db V2 w→w.grownBy w1 none→ye (fun k=>w.heap.size≤k∧k<w1.heap.size) w1 (.slice pk s20.key.length ck) (zi s20.key)→ye (fun k=>w.heap.size≤k∧k<w1.heap.size) w1 (.slice pr s20.row.length cr) (zi s20.row)→Calls Tryz.prog 64 #[.pointer (some ⟨vb,0,none⟩),shV pk ck pr cr s20] w1 fun e w'=>e = .returned (.int .i64 0)∧VQ W vb db V2 w'):=zd fun w w1 pk ck pr cr h hg hk hr=>h.put j2 hg hk hr zbr (by decide) (by decide) e3
 have HJ2:=zd j2;have HN2:Hid (V2.S.next≤10):=zd (by omega)
 have HXL2:=zd xl2;have HLF2:Hid ((vx al2).life=3):=zd (by rw[x2,x1];rfl)
 clear hj0 hn0 hl0 hb0 hms e1 b1 j1 x1 n1 hl1 xl1 s1 b2 j2 x2 n2 xl2 hl2 e3 hV1 hV2
 go_upto_region 5 with (first
  | (go_at_call 64;refine(HP2.out _ _ _ _ _ _ HVB.out HG5.out HS5.out.1 HS5.out.2).mono ?_;rintro e w6 ⟨rfl,hv⟩;have HV6:=zd hv;clear hv)
  | (go_at_call 77;refine(HRW.out w4).mono ?_;rintro e w5 ⟨pk5,ck5,pr5,cr5,rfl,hg,h1,h2⟩;have HG5:=zd hg;have HS5:=zd (And.intro h1 h2);clear hg h1 h2)
  | (go_at_call 62;refine(HB1.out _ HVA.out).mono ?_;rintro e w4 ⟨rfl,hv⟩;have HVB:=zd hv;clear hv)
  | (go_at_call 64;refine(HP1.out _ _ _ _ _ _ HV0.out HG3.out HS3.out.1 HS3.out.2).mono ?_;rintro e w4a ⟨rfl,hv⟩;have HVA:=zd hv;clear hv)
  | (go_at_call 77;refine(HRW.out w2).mono ?_;rintro e w3 ⟨pk3,ck3,pr3,cr3,rfl,hg,h1,h2⟩;have HG3:=zd hg;have HS3:=zd (And.intro h1 h2);clear hg h1 h2))
 clear HV0 HVA HVB HP1 HB1 HP2 HG3 HS3 HG5 HS5
 go_upto_region 8 with (first
  | (go_at_call 113;refine HV8.out.steps.mono ?_;rintro e w9 ⟨rfl,h5⟩;obtain rfl:w8=w9:=h5.symm)
  | (go_at_call 64;refine(HP3.out _ _ _ _ _ _ HV6.out HG7.out HS7.out.1 HS7.out.2).mono ?_;rintro e w8 ⟨rfl,hv⟩;have HV8:=zd hv;clear hv)
  | (go_at_call 77;refine(HRW.out w6).mono ?_;rintro e w7 ⟨pk7,ck7,pr7,cr7,rfl,hg,h1,h2⟩;have HG7:=zd hg;have HS7:=zd (And.intro h1 h2);clear hg h1 h2)
  | (go_at_call 113;refine HV6.out.steps.mono ?_;rintro e w9 ⟨rfl,h5⟩;obtain rfl:w6=w9:=h5.symm))
 have HRO:=zd (HV8.out.reopen HJ2.out (by have:=HN2.out;omega) (by decide))
 clear HP3 HG7 HS7 HV6
 go_upto_region 9 with (go_at_call 61;refine HRO.out.mono ?_;rintro e wa ⟨vb2,V3,al3,rfl,hv,hj,hx,hn⟩;have HVC:=zd hv;have HJ3:=zd hj;have HX3:=zd hx;have HN3:=zd hn;clear hv hj hx hn)
 have HXL3:Hid (XL (vx al3) [s20]):=zd (by rw[HX3.out];exact HXL2.out)
 have HLF3:Hid ((vx al3).life=3):=zd (by rw[HX3.out];exact HLF2.out)
 have HGE:Hid (Calls Tryz.prog 75 #[.pointer (some ⟨vb2,0,none⟩),.agg #[.string { data:=#[97] },.int .i64 1]] wa (zeb wa s20 true)):=zd (HVC.out.get (i:=idS s20) HJ3.out ((HXL3.out.sh (idS s20) s20).2 ⟨by simp,rfl⟩))
 have HN2X:=HN2;clear HRO HV8 HJ2 HN2 HXL2 HLF2 HX3;have hsv:∀qk dk qr dr,shV qk dk qr dr s20 = .agg #[.slice qk 1 dk,.int .i64 1,.int .i64 2,.slice qr 1 dr]:=fun _ _ _ _=>rfl
 have HSV:=zd hsv;clear hsv
 go_upto_region 10 with (go_at_call 75;refine HGE.out.mono ?_;rintro e wb ⟨qk,dk,qr,dr,rfl,hg,h1,h2⟩;have HGB:=zd hg;have HRB:=zd (And.intro h1 h2);clear hg h1 h2;rw[HSV.out])
 have hga:=zg wb (.cells #[.slice qk 1 dk,.int .i64 1,.int .i64 2,.slice qr 1 dr] 97) none;have hbx:=heap_alloc_new wb (.cells #[.slice qk 1 dk,.int .i64 1,.int .i64 2,.slice qr 1 dr] 97);obtain⟨a0,a1,a2,a3,-⟩:=xa hbx;have HV10:=zd ((HVC.out.grown HGB.out).grown hga);have HR10:=zd (HRB.out.2.raw.grown hga (by simp))
 clear hga hbx HVC HGE HRB;generalize wb.alloc (.cells #[.slice qk 1 dk,.int .i64 1,.int .i64 2,.slice qr 1 dr] 97)=wc at *;have HLC:Hid (Calls Tryz.prog 76 #[.pointer (some ⟨vb2,0,none⟩)] wc fun e w'=>e = .returned (.int .i64 3)∧w'=wc):=zd (by
  have h1:=HV10.out.life HJ3.out;rw[HLF3.out] at h1
  exact h1)
 have HIC:Hid (Calls Tryz.prog 78 #[.pointer (some ⟨vb2,0,none⟩)] wc fun e w'=>∃p c,e = .returned (.slice p 1 c)∧wc.grownBy w' none):=zd (HV10.out.ids HJ3.out HXL3.out (by decide))
 go_upto_region 11 with (first
  | (go_at_call 78;refine HIC.out.mono ?_;rintro e wd ⟨pi,ci,rfl,hg⟩;have HVD:=zd (HV10.out.grown hg);have hcs:(convert 32 9 (.slice qr 1 dr)).run Tryz.prog wd = .ok (.string { data:=#[120] }) wd:=Yv (HR10.out.grown hg (by simp));replace a0:=hg.cell a0 (by simp);replace a2:=hg.cell a2 (by simp);replace a3:=hg.cell a3 (by simp);clear hg)
  | (go_at_call 76;refine HLC.out.mono ?_;rintro e w9 ⟨rfl,h5⟩;obtain rfl:wc=w9:=h5.symm))
 obtain⟨b4,al4,j4,x4,n4⟩:=HJ3.out.drop (i:=idS s20) (by rw[(HXL3.out.sh (idS s20) s20).2 ⟨by simp,rfl⟩];simp)
 obtain⟨V4,hV4⟩:∃V4,V3.drop (idS s20)=(V4,0):=⟨_,Prod.ext rfl b4⟩;rw[hV4] at j4 n4;simp only at j4 n4;have xl4:XL (vx al4) []:=by
  rw[x4];have h1:=HXL3.out.drop s20;have e:woI [s20] s20 = []:=by unfold woI;simp
  rw[e] at h1
  exact h1
 have lf4:(vx al4).life=3:=by rw[x4];exact HLF3.out
 have s4:=j4.sum xl4 (by rw[lf4];decide)
 obtain⟨hb4,hl4⟩:V4.broken=0∧V4.life=3:=by
  obtain⟨-,blk,hi⟩:=j4
  exact⟨hi.brk,by rw[←hi.xlife,lf4]⟩
 have e5:V4.born 3=(V4,4):=zgn hb4 (by decide) (by omega)
 obtain⟨b6,al6,j6,x6,n6⟩:=j4.born (n:=4) (by have:=HN3.out;have:=HN2X.out;omega) (by decide) (by decide) (by omega) (by rw[s4];decide)
 obtain⟨V6,hV6⟩:∃V6,V4.born 4=(V6,0):=⟨_,Prod.ext rfl b6⟩;rw[hV6] at j6 n6;simp only at j6 n6;have HDR:Hid (Calls Tryz.prog 69 #[.pointer (some ⟨vb2,0,none⟩),.agg #[.string { data:=#[97] },.int .i64 1]] wd fun e w'=>e = .returned (.int .i64 0)∧VQ W vb2 db V4 w'):=zd (HVD.out.drop (i:=idS s20) HJ3.out hV4)
 have HI4:Hid (∀w,VQ W vb2 db V4 w→Calls Tryz.prog 78 #[.pointer (some ⟨vb2,0,none⟩)] w fun e w'=>∃p c,e = .returned (.slice p 0 c)∧w.grownBy w' none):=zd fun w h=>h.ids j4 xl4 (by decide)
 have HB5:Hid (∀w,VQ W vb2 db V4 w→Calls Tryz.prog 62 #[.pointer (some ⟨vb2,0,none⟩),.int .i64 3] w fun e w'=>e = .returned (.int .i64 4)∧VQ W vb2 db V4 w'):=zd fun w h=>h.born j4 e5
 have HB6:Hid (∀w,VQ W vb2 db V4 w→Calls Tryz.prog 62 #[.pointer (some ⟨vb2,0,none⟩),.int .i64 4] w fun e w'=>e = .returned (.int .i64 0)∧VQ W vb2 db V6 w'):=zd fun w h=>h.born j4 hV6
 have HL6:Hid (∀w,VQ W vb2 db V6 w→Calls Tryz.prog 76 #[.pointer (some ⟨vb2,0,none⟩)] w fun e w'=>e = .returned (.int .i64 4)∧w'=w):=zd fun w h=>by
  have h1:=h.life j6;rw[x6] at h1
  exact h1
 clear b4 j4 x4 n4 xl4 lf4 s4 hb4 hl4 e5 b6 j6 x6 n6 hV4 hV6 HJ3 HN3 HXL3 HLF3 HLC HIC hcs a0 a1 a2 a3
 go_wp2_with (first
  | (go_at_call 76;refine(HL6.out _ HVG.out).mono ?_;rintro e w9 ⟨rfl,h5⟩;obtain rfl:wg=w9:=h5.symm)
  | (go_at_call 62;refine(HB6.out _ HVF.out).mono ?_;rintro e wg ⟨rfl,hv⟩;have HVG:=zd hv;clear hv)
  | (go_at_call 62;refine(HB5.out _ HVE2.out).mono ?_;rintro e wf ⟨rfl,hv⟩;have HVF:=zd hv;clear hv)
  | (go_at_call 78;refine(HI4.out _ HVE.out).mono ?_;rintro e we2 ⟨pj,cj,rfl,hg⟩;have HVE2:=zd (HVE.out.grown hg);clear hg)
  | (go_at_call 69;refine HDR.out.mono ?_;rintro e we ⟨rfl,hv⟩;have HVE:=zd hv;clear hv))
 go_ret
 exact⟨rfl,HVG.out.gr⟩
structure ShX where
 s:ShM
 kp:Option Addr
 kc:Nat
 rp:Option Addr
 rc:Nat
def shXD:ShX:=⟨⟨[],0,0,[]⟩,none,0,none,0⟩
def shXC (x:ShX):List Value:=[.slice x.kp x.s.key.length x.kc,.int .i64 x.s.zms,.int .i64 x.s.node,.slice x.rp x.s.row.length x.rc]
structure zh6 (W:World) (x:ShX):Prop where
 k:ye (fun k=>k<W.heap.size) W (.slice x.kp x.s.key.length x.kc) (zi x.s.key)
 r:ye (fun k=>k<W.heap.size) W (.slice x.rp x.s.row.length x.rc) (zi x.s.row)
 bl:BL x.s.key∧BL x.s.row
 v : -9223372036854775808≤x.s.zms∧x.s.zms≤9223372036854775807
 kl:x.s.key.length≤9223372036854775807
 rl:x.s.row.length≤9223372036854775807
def ShIn (w:World) (v:Value) (l:List ShX):Prop:=
 ∃p cap,v = .slice p l.length cap∧l.length≤9223372036854775807∧(∀x∈l,zh6 w x)∧(l = []∨∃b off,p=some ⟨b,off,none⟩∧∀i,i<l.length→∀j u,(shXC (l.getD i shXD))[j]? = some u→w.cell? ⟨b,off+i*4+j,none⟩=some u)
theorem Xx.same {w w':World} {v:Value} {l:List ShM} (h:Xx w v l) (hs:∀g,v.ownBlock=some g→w'.heap[g]? = w.heap[g]?):Xx w' v l:=uw.same h hs
structure qo (W:World) (own:Nat→Prop) (vb db:Nat) (V:Vlt) (al:List (Int × List Int)) (l:List ShM) (a:Value) (k:Nat) (w:World):Prop where
 vr:VR W own vb db V w
 vj:VJ V 600 al
 life:(vx al).life=1
 xl:XL (vx al) l
 row:Xx w a l
 rowo:∀g,a.ownBlock=some g→own g
 bs:∀x∈l,BS x∧x.key.length≤64∧x.row.length≤400
 few:l.length≤k
 next:V.S.next≤(k:Int)+2
section
variable {W w w' w1 : World} {own : Nat → Prop} {vb db : Nat} {V V' : Vlt} {al al' : List (Int × List Int)} {l : List ShM} {a a' : Value} {k : Nat} {s : ShM}
theorem qo.grown (h:qo W own vb db V al l a k w) (hg:w.grownBy w' none):qo W own vb db V al l a k w':=
 ⟨h.vr.grown hg,h.vj,h.life,h.xl,uw.grown h.row hg (by simp),h.rowo,h.bs,h.few,h.next⟩
theorem qo.keep (h:qo W own vb db V al l a k w) (ht:zq (fun q=>¬own q) w w'):Xx w' a l:=
 h.row.same fun g hg=>ht.block g (h.vr.lt (h.rowo g hg)) (fun e=>e (h.rowo g hg))
theorem qo.lenA (h:qo W own vb db V al l a k w):∃p c,a = .slice p l.length c:=by
 obtain⟨p,c,e,-,-⟩:=uw.form h.row
 exact⟨p,c,e⟩
theorem qo.life1 (h:qo W own vb db V al l a k w):V.life=1:=by
 obtain⟨-,blk,hi⟩:=h.vj;rw[←hi.xlife,h.life]
theorem Jh {n:Nat} (h:n≤690):zo n≤3:=by unfold zo;omega
theorem zd5:∀l:List ShM,(∀x∈l,BS x∧x.key.length≤64∧x.row.length≤400)→(l.map fun x=>zo (19+x.key.length+x.row.length)).sum≤3*l.length
 | [],_=>by simp
 | x :: t,h=>by
  have ih:=zd5 t fun y hy=>h y (List.mem_cons_of_mem _ hy)
  have hx:=h x (List.mem_cons_self ..);have:=Jh (n:=19+x.key.length+x.row.length) (by omega)
  simp only[List.map_cons,List.sum_cons,List.length_cons];omega
theorem qo.same (h:qo W own vb db V al l a k w) (hk:k≤1000) {p:Option Addr} {c:Nat} (ha:a = .slice p l.length c):Calls Tryz.prog 68 #[.pointer (some ⟨vb,0,none⟩),.agg #[.int .i64 1,.slice p l.length c]] w fun e w'=>e = .returned (.bool true)∧w.grownBy w' none:=by
 obtain⟨hst,blk,hi⟩:=h.vj;have hs:=hi.same h.xl;rw[h.life] at hs;have hf:=h.few;refine(zhh h.vr (by rw[hs.2.1];omega) (by rw[←ha];exact h.row) (fun x hx=>(h.bs x hx).1) (by omega)).mono ?_
 rintro e w' ⟨r,rfl,hg,hr⟩
 exact⟨by rw[hr.2 hs],hg⟩
theorem qo.put (h:qo W own vb db V al l a k w) (hk:k≤20) {x:ShX} (hx:zh6 W x) (hms:zb4 x.s) (hrl:x.s.row.length≤400) :
  Calls Tryz.prog 64 #[.pointer (some ⟨vb,0,none⟩),.agg #[.slice x.kp x.s.key.length x.kc,.int .i64 x.s.zms,.int .i64 x.s.node,.slice x.rp x.s.row.length x.rc]] w fun e w'=>e = .returned (.int .i64 0)∧∃V' al',VR W own vb db V' w'∧VJ V' 600 al'∧(vx al').life=1∧XL (vx al') (woI l x.s ++ [x.s])∧V'.S.next≤((k+1:Nat):Int)+2∧zq (fun q=>¬own q) w w':=by
 have hb:∀q,q<W.heap.size→w.heap[q]? = W.heap[q]?:=fun q hq=>h.vr.gr.block q hq (by simp)
 have hk2:=hms.k2;have hs:=h.vj.sum h.xl (by rw[h.life];decide)
 have hs3:=zd5 l h.bs;have hf:=h.few;have hn:=h.next;have hp3:=Jh (n:=19+x.s.key.length+x.s.row.length) (by omega)
 have hpp:(woI l x.s ++ [x.s]).length≤l.length+1:=by
  rw[List.length_append];have:=Qi l x.s;simp only[List.length_singleton];omega
 obtain⟨e1,al',j1,x1,n1⟩:=h.vj.put (s:=x.s) (by omega) hms hx.bl (by rw[h.life1];decide) (by rw[hs];omega)
 refine(h.vr.put h.vj.late ((hx.k.turn hb).mono fun q hq=>h.vr.old q hq) ((hx.r.turn hb).mono fun q hq=>h.vr.old q hq) hx.bl (by omega) hms.v2).mono ?_
 rw[e1];rintro e w' ⟨rfl,h1,h2⟩
 exact⟨rfl,_,al',h1,j1,by rw[x1];exact h.life,by rw[x1];exact h.xl.put x.s,by simp only[Int.natCast_add,Int.natCast_one];omega,h2⟩
theorem qo.put_no (h:qo W own vb db V al l a k w) {x:ShX} (hx:zh6 W x) (hms:Ye x.s.key.length x.s.zms x.s.node x.s.row.length=false) (hrl:x.s.row.length≤400∧x.s.key.length≤400) :
  Calls Tryz.prog 64 #[.pointer (some ⟨vb,0,none⟩),.agg #[.slice x.kp x.s.key.length x.kc,.int .i64 x.s.zms,.int .i64 x.s.node,.slice x.rp x.s.row.length x.rc]] w fun e w'=>e = .returned (.int .i64 2)∧qo W own vb db V al l a (k+1) w':=by
 have hb:∀q,q<W.heap.size→w.heap[q]? = W.heap[q]?:=fun q hq=>h.vr.gr.block q hq (by simp)
 have e1:V.putS x.s=(V,2):=by
  obtain⟨-,blk,hi⟩:=h.vj
  exact zg9 hi.brk hms
 refine(h.vr.put h.vj.late ((hx.k.turn hb).mono fun q hq=>h.vr.old q hq) ((hx.r.turn hb).mono fun q hq=>h.vr.old q hq) hx.bl (by omega) hx.v.2).mono ?_
 rw[e1];rintro e w' ⟨rfl,h1,h2⟩;have:=h.few;have:=h.next
 exact⟨rfl,h1,h.vj,h.life,h.xl,h.keep h2,h.rowo,h.bs,by omega,by simp only[Int.natCast_add,Int.natCast_one];omega⟩
theorem qo.next_ (hb:∀y∈l,BS y∧y.key.length≤64∧y.row.length≤400) (hv:VR W own vb db V' w1) (hj:VJ V' 600 al') (hl:(vx al').life=1) (hx:XL (vx al') l) (hn:V'.S.next≤(k:Int)+2) (hf:l.length≤k) (hg:w1.grownBy w' none) (hr:Xx w' a' l) (ho:∀g,a'.ownBlock=some g→w1.heap.size≤g) :
  qo W (fun q=>own q∨(w1.heap.size≤q∧q<w'.heap.size)) vb db V' al' l a' k w':=
 ⟨hv.more hg,hj,hl,hx,hr,fun g hg2=>Or.inr ⟨ho g hg2,hr.lt hg2⟩,hb,hf,hn⟩
theorem qo.more (h:qo W own vb db V al l a k w) (hg:w.grownBy w' none):qo W (fun q=>own q∨(w.heap.size≤q∧q<w'.heap.size)) vb db V al l a k w':=
 ⟨h.vr.more hg,h.vj,h.life,h.xl,uw.grown h.row hg (by simp),fun g hg2=>Or.inl (h.rowo g hg2),h.bs,h.few,h.next⟩
theorem qo.drop (h:qo W own vb db V al l a k w) (hs:s∈l):Calls Tryz.prog 69 #[.pointer (some ⟨vb,0,none⟩),.agg #[.string (ofB s.key),.int .i64 s.zms]] w fun e w'=>e = .returned (.int .i64 0)∧∃V' al',VR W own vb db V' w'∧VJ V' 600 al'∧(vx al').life=1∧XL (vx al') (woI l s)∧(vx al').sh (idS s)=none∧V'.S.next≤((k+1:Nat):Int)+2∧zq (fun q=>¬own q) w w':=by
 obtain⟨e1,al',j1,x1,n1⟩:=h.vj.drop (i:=idS s) (by rw[(h.xl.sh (idS s) s).2 ⟨hs,rfl⟩];simp)
 have hn:=h.next;refine(h.vr.drop h.vj.late (idS s)).mono ?_;rw[e1];rintro e w' ⟨rfl,h1,h2⟩
 exact⟨rfl,_,al',h1,j1,by rw[x1];exact h.life,by rw[x1];exact h.xl.drop s,by rw[x1];exact if_pos rfl,by simp only[Int.natCast_add,Int.natCast_one];omega,h2⟩
theorem zhx (h:VR W own vb db V' w) (hj:VJ V' 600 al') (hx:(vx al').sh (idS s)=none):Calls Tryz.prog 69 #[.pointer (some ⟨vb,0,none⟩),.agg #[.string (ofB s.key),.int .i64 s.zms]] w fun e w'=>e = .returned (.int .i64 5)∧VR W own vb db V' w'∧zq (fun q=>¬own q) w w':=by
 refine(h.drop hj.late (idS s)).mono ?_;rw[hj.drop_no hx];rintro e w' ⟨rfl,h1,h2⟩
 exact⟨rfl,h1,h2⟩
theorem qo.free (h:qo W own vb db V al l a k w):Calls Tryz.prog 63 #[.pointer (some ⟨vb,0,none⟩)] w fun e w'=>e = .returned (.int .i64 (599-((l.map fun x=>zo (19+x.key.length+x.row.length)).sum:Int)))∧w'=w:=by
 have h1:=h.vj.free;have h2:=h.vj.sum h.xl (by rw[h.life];decide)
 refine h.vr.free.mono ?_;rintro e w' ⟨rfl,h3⟩;refine⟨?_,h3⟩
 congr 2
 omega
structure AppW (W:World) (l:List ShM) (s:ShM) (v:Value) (w:World):Prop where
 row:Xx w v (woI l s ++ [s])
 gr:W.grownBy w none
 own:∀g,v.ownBlock=some g→W.heap.size≤g
theorem WoI.app5 {v v':Value} (h:WoI W l s v w) (hap:zcc w 102 4 shC v (woI l s ++ [s]) v' w'):AppW W l s v' w':=by
 obtain⟨p0,c0,e0,h1,h2,h3⟩:=h;obtain⟨a1,a2,a3⟩:=hap;refine⟨a1,xd h2 a2 h3,fun g hgv=>?_⟩
 rcases a3 with e|e
 ·exact h3 g (e.symm.trans hgv)
 ·rw[e] at hgv
  injection hgv with hgv
  have:=h2.size;omega
theorem zfo (m:Nat) (hm:m≤100000) (w:World):Calls Tryz.prog 16 #[.int .i64 (m:Int)] w fun e w'=>e = .returned (.int .i64 (zo m:Int))∧w'=w:=by
 refine(zhf (m:Int) (by omega) w).mono ?_
 rintro e w' ⟨rfl,h⟩;refine⟨?_,h⟩;rw[if_neg (by omega),Int.toNat_natCast]
end
end Go.Proofs.YtbcbhlfjgobejaaGreat
