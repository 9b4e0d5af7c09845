/- works() of chapter 20: the walk. Conditions: none, or as the theorems say. -/
import Derived.Test.YtbcbhlfjgobejaaGreatI44
import Derived.Test.YtbcbhlfjgobejaaGreatI19
import Derived.Test.YtbcbhlfjgobejaaGreatI38
set_option linter.unusedSimpArgs false
set_option linter.unusedVariables false
namespace Go.Proofs.YtbcbhlfjgobejaaGreat
set_option maxHeartbeats 200000000
open Go.RowKit Go.Sf Go.Shelf
attribute [local go_sem] Oper.semAt_some
def VQ (W:World) (vb db:Nat) (V:Vlt) (w:World):Prop:=∃own,VR W own vb db V w
section
variable {W w w1 w' : World} {vb db : Nat} {V : Vlt} {al : List (Int × List Int)} {N : Nat} {s : ShM}
theorem VQ.grown (h:VQ W vb db V w) (hg:w.grownBy w' none):VQ W vb db V w':=by
 obtain⟨own,h⟩:=h
 exact⟨own,h.grown hg⟩
theorem VQ.gr (h:VQ W vb db V w):W.grownBy w none:=by
 obtain⟨own,h⟩:=h
 exact h.gr
theorem VJ.late (h:VJ V N al):V.S.d.late.length≤5000:=by
 obtain⟨-,blk,hi⟩:=h;rw[hi.inv.late]
 exact Nat.zero_le _
theorem VQ.put (h:VQ W vb db V w) (hj:VJ V N al) (hg:w.grownBy w1 none) {pk pr:Option Addr} {ck cr:Nat} (hk:ye (fun k=>w.heap.size≤k∧k<w1.heap.size) w1 (.slice pk s.key.length ck) (zi s.key)) (hr:ye (fun k=>w.heap.size≤k∧k<w1.heap.size) w1 (.slice pr s.row.length cr) (zi s.row)) (hbl:BL s.key∧BL s.row) (hlen:s.key.length≤1000000∧s.row.length≤1000000) (hv2:s.znm≤9223372036854775807) {V':Vlt} {r:Int} (he:V.putS s=(V',r)) :
  Calls Tryz.prog 64 #[.pointer (some ⟨vb,0,none⟩),shV pk ck pr cr s] w1 fun e w'=>e = .returned (.int .i64 r)∧VQ W vb db V' w':=by
 obtain⟨own,h⟩:=h;refine((h.more hg).put hj.late (hk.mono fun k hk=>Or.inr hk) (hr.mono fun k hk=>Or.inr hk) hbl hlen hv2).mono ?_
 rw[he];rintro e w' ⟨rfl,h1,-⟩
 exact⟨rfl,_,h1⟩
theorem VQ.born (h:VQ W vb db V w) (hj:VJ V N al) {n:Int} {V':Vlt} {r:Int} (he:V.born n=(V',r)):Calls Tryz.prog 62 #[.pointer (some ⟨vb,0,none⟩),.int .i64 n] w fun e w'=>e = .returned (.int .i64 r)∧VQ W vb db V' w':=by
 obtain⟨own,h⟩:=h;refine(h.born hj.late n).mono ?_;rw[he];rintro e w' ⟨rfl,h1,-⟩
 exact⟨rfl,_,h1⟩
theorem VQ.drop (h:VQ W vb db V w) (hj:VJ V N al) {i:VID} {V':Vlt} {r:Int} (he:V.drop i=(V',r)):Calls Tryz.prog 69 #[.pointer (some ⟨vb,0,none⟩),yu i] w fun e w'=>e = .returned (.int .i64 r)∧VQ W vb db V' w':=by
 obtain⟨own,h⟩:=h;refine(h.drop hj.late i).mono ?_;rw[he];rintro e w' ⟨rfl,h1,-⟩
 exact⟨rfl,_,h1⟩
theorem zav {n:Int} {W w1:World} {db:Nat} (hn:0≤n∧n≤4096) (hg:W.grownBy w1 none) (hd:∀own:Nat→Prop,(∀k,own k→k<W.heap.size)→vl own w1 db (Dk.new n)) :
  Calls Tryz.prog 61 #[.pointer (some ⟨db,0,none⟩)] w1 fun e w'=>∃vb V,e = .returned (.tuple #[.pointer (some ⟨vb,0,none⟩),.int .i64 0])∧VR W (fun k=>k<W.heap.size) vb db V w'∧VJ V n.toNat []∧V.S.next=1:=by
 have h:DR W (fun k=>k<W.heap.size) db (Dk.new n) w1:=⟨hd _ fun k hk=>hk,fun k hk=>hk,hg⟩
 have hnn:(Dk.new n).n=n.toNat:=by show(min 4096 (max 0 n)).toNat=_;omega
 have gd:vf ya (fun i=>scrub ya (bk (Dk.new n).now i)) (Dk.new n).n [] (fun _=>[]) 1:=zly _ fun i _=>by show scrub ya zz=_;exact zce
 refine(h.vopen_ (X:=X0) (zin n) rfl (fun i _=>rfl) (by rw[hnn];omega) (by decide) gd ⟨by simp,rfl⟩).mono ?_
 rintro e w' ⟨vb,V,al,blk,rfl,h1,h2,h3,h4,h5,h6,-,h7,h8⟩;obtain rfl:=h8 (by simp)
 rw[hnn] at h7
 exact⟨vb,V,rfl,h1,⟨h7,blk,h2⟩,by have:=h7.n1;omega⟩
theorem VQ.reopen (h:VQ W vb db V w) (hj:VJ V N al) (hx:V.S.next≤1000) (hN:N≤4096):Calls Tryz.prog 61 #[.pointer (some ⟨db,0,none⟩)] w fun e w'=>∃vb2 V2 al2,e = .returned (.tuple #[.pointer (some ⟨vb2,0,none⟩),.int .i64 0])∧VQ W vb2 db V2 w'∧VJ V2 N al2∧vx al2=vx al∧V2.S.next≤V.S.next:=by
 obtain⟨own,h⟩:=h;obtain⟨hst,blk,hi⟩:=hj;have hn:=hst.n;have g:vf ya (fun i=>scrub ya (bk V.S.d.now i)) V.S.d.n al blk V.S.next:=hi.inv.good.same fun i hi2=>qt (hi.inv.good.clean i hi2)
 refine(h.dr.vopen_ hst.sd hi.inv.late hi.inv.st (by omega) hx g hi.x).mono ?_
 rintro e w' ⟨vb2,V2,al2,blk2,rfl,h1,h2,h3,-,h5,-,-,h7,-⟩;rw[hn] at h7
 exact⟨vb2,V2,al2,rfl,⟨own,h1⟩,⟨h7,blk2,h2⟩,h3,h5⟩
theorem VQ.steps (h:VQ W vb db V w):Calls Tryz.prog 113 #[.pointer (some ⟨db,0,none⟩)] w fun e w'=>e = .returned (.int .i64 (wrap64 V.S.d.steps))∧w'=w:=by
 obtain⟨own,h⟩:=h
 exact dsteps h.dr.rep
theorem VQ.get (h:VQ W vb db V w) (hj:VJ V N al) {i:VID} (hx:(vx al).sh i=some s):Calls Tryz.prog 75 #[.pointer (some ⟨vb,0,none⟩),yu i] w (ze2 w s true):=by
 obtain⟨own,h⟩:=h;obtain⟨-,blk,hi⟩:=hj;rw[hi.xsh] at hx;have h1:=h.get i
 cases e:zw V.sh i with
 | none=>rw[e] at hx;cases hx
 | some p=>
  rw[e] at hx h1
  injection hx with hx
  unfold Vlt.look at h1;rw[e] at h1;simp only[Option.getD_some,Option.isSome_some] at h1;replace hx:p.1=s:=hx;rw[hx] at h1
  exact h1
theorem VQ.life (h:VQ W vb db V w) (hj:VJ V N al):Calls Tryz.prog 76 #[.pointer (some ⟨vb,0,none⟩)] w fun e w'=>e = .returned (.int .i64 (vx al).life)∧w'=w:=by
 obtain⟨own,h⟩:=h;obtain⟨-,blk,hi⟩:=hj;rw[hi.xlife]
 exact h.life
theorem VQ.ids (h:VQ W vb db V w) (hj:VJ V N al) {l:List ShM} (hx:XL (vx al) l) (hl:l.length≤1000):Calls Tryz.prog 78 #[.pointer (some ⟨vb,0,none⟩)] w fun e w'=>∃p c,e = .returned (.slice p l.length c)∧w.grownBy w' none:=by
 obtain⟨own,h⟩:=h;obtain⟨-,blk,hi⟩:=hj;have hn:=(hi.same hx).2.1;have h1:=h.ids (by omega)
 rw[hn] at h1
 exact h1
end
def s20:ShM:=⟨[97],1,2,[120]⟩
theorem zet:ze3 s20:=by constructor <;> decide
theorem zcb:BL s20.key∧BL s20.row:=by
 constructor
 ·intro b hb
  simp[s20] at hb;omega
 ·intro b hb
  simp[s20] at hb;omega
set_option maxRecDepth 100000 in
theorem zg8 (W:World):Calls Tryz.prog 60 #[] W fun e w'=>e = .returned (.bool true)∧W.grownBy w' none:=by
 have HN:=zd (dnew 9 W);have HRW:Hid (∀w,Calls Tryz.prog 77 #[.string { data:=#[120] }] w (NewSh w s20)):=zd fun w=>zkn w (b:=[120]) zcb.2 (by decide)
 go_enter Tryz.func60,Tryz.ntmps60
 go_upto_region 3 with (first
  | (go_at_call 19;refine HN.out.mono ?_;rintro e w1 ⟨db,rfl,hg1,-,hd1⟩;have HOP:=zd (zav (W:=W) (n:=9) (by decide) hg1 hd1);clear hg1 hd1)
  | (go_at_call 61;refine HOP.out.mono ?_;rintro e w2 ⟨vb,V0,rfl,hv,hj0,hn0⟩;have HV0:=zd (show VQ W vb db V0 w2 from ⟨_,hv⟩);clear hv HOP))
 have hl0:V0.life=0:=by
  obtain⟨-,blk,hi⟩:=hj0
  exact hi.lfE
 have hb0:V0.broken=0:=by
  obtain⟨-,blk,hi⟩:=hj0
  exact hi.brk
 have hms:=(Yj s20 zet.v2).2 zet;have e1:V0.putS s20=(V0,4):=zh3 hb0 hms hl0;obtain⟨b1,al1,j1,x1,n1⟩:=hj0.born (n:=3) (by omega) (by decide) (by decide) (by omega) (by decide)
 obtain⟨V1,hV1⟩:∃V1,V0.born 3=(V1,0):=⟨_,Prod.ext rfl b1⟩;rw[hV1] at j1 n1;simp only at j1 n1;have hl1:V1.life=3:=by
  obtain⟨-,blk,hi⟩:=j1;rw[←hi.xlife,x1]
  rfl
 have xl1:XL (vx al1) []:=by rw[x1];exact znh.born 3
 have s1:=j1.sum xl1 (by rw[x1];decide)
 obtain⟨b2,al2,j2,x2,n2⟩:=j1.put (s:=s20) (by omega) zet zcb (by omega) (by rw[s1];decide)
 obtain⟨V2,hV2⟩:∃V2,V1.putS s20=(V2,0):=⟨_,Prod.ext rfl b2⟩;rw[hV2] at j2 n2;simp only at j2 n2;have xl2:XL (vx al2) [s20]:=by rw[x2];exact xl1.put s20
 have hl2:V2.life=3:=by
  obtain⟨-,blk,hi⟩:=j2;rw[←hi.xlife,x2,x1]
  rfl
 have e3:V2.putS s20=(V2,0):=by
  obtain⟨-,blk,hi⟩:=j2;have h1:=(xl2.sh (idS s20) s20).2 ⟨by simp,rfl⟩
  rw[hi.xsh] at h1
  cases e:zw V2.sh (idS s20) with
  | none=>rw[e] at h1;cases h1
  | some p=>
   rw[e] at h1
   injection h1 with h1
   exact zer hi.brk hms (by omega) ⟨by rw[e];rfl,by unfold Vlt.look;rw[e];exact h1⟩
 have HP1:Hid (∀w w1 pk ck pr cr,VQ W vb db V0 w→w.grownBy w1 none→ye (fun k=>w.heap.size≤k∧k<w1.heap.size) w1 (.slice pk s20.key.length ck) (zi s20.key)→ye (fun k=>w.heap.size≤k∧k<w1.heap.size) w1 (.slice pr s20.row.length cr) (zi s20.row)→Calls Tryz.prog 64 #[.pointer (some ⟨vb,0,none⟩),shV pk ck pr cr s20] w1 fun e w'=>e = .returned (.int .i64 4)∧VQ W vb db V0 w'):=zd fun w w1 pk ck pr cr h hg hk hr=>h.put hj0 hg hk hr zcb (by decide) (by decide) e1
 have HB1:Hid (∀w,VQ W vb db V0 w→Calls Tryz.prog 62 #[.pointer (some ⟨vb,0,none⟩),.int .i64 3] w fun e w'=>e = .returned (.int .i64 0)∧VQ W vb db V1 w'):=zd fun w h=>h.born hj0 hV1
 have HP2:Hid (∀w w1 pk ck pr cr,VQ W vb db V1 w→w.grownBy w1 none→ye (fun k=>w.heap.size≤k∧k<w1.heap.size) w1 (.slice pk s20.key.length ck) (zi s20.key)→ye (fun k=>w.heap.size≤k∧k<w1.heap.size) w1 (.slice pr s20.row.length cr) (zi s20.row)→Calls Tryz.prog 64 #[.pointer (some ⟨vb,0,none⟩),shV pk ck pr cr s20] w1 fun e w'=>e = .returned (.int .i64 0)∧VQ W vb db V2 w'):=zd fun w w1 pk ck pr cr h hg hk hr=>h.put j1 hg hk hr zcb (by decide) (by decide) hV2
 have HP3:Hid (∀w w1 pk ck pr cr,VQ W vb db V2 w→w.grownBy w1 none→ye (fun k=>w.heap.size≤k∧k<w1.heap.size) w1 (.slice pk s20.key.length ck) (zi s20.key)→ye (fun k=>w.heap.size≤k∧k<w1.heap.size) w1 (.slice pr s20.row.length cr) (zi s20.row)→Calls Tryz.prog 64 #[.pointer (some ⟨vb,0,none⟩),shV pk ck pr cr s20] w1 fun e w'=>e = .returned (.int .i64 0)∧VQ W vb db V2 w'):=zd fun w w1 pk ck pr cr h hg hk hr=>h.put j2 hg hk hr zcb (by decide) (by decide) e3
 have HJ2:=zd j2;have HN2:Hid (V2.S.next≤10):=zd (by omega)
 have HXL2:=zd xl2;have HLF2:Hid ((vx al2).life=3):=zd (by rw[x2,x1];rfl)
 clear hj0 hn0 hl0 hb0 hms e1 b1 j1 x1 n1 hl1 xl1 s1 b2 j2 x2 n2 xl2 hl2 e3 hV1 hV2
 go_upto_region 5 with (first
  | (go_at_call 64;refine(HP2.out _ _ _ _ _ _ HVB.out HG5.out HS5.out.1 HS5.out.2).mono ?_;rintro e w6 ⟨rfl,hv⟩;have HV6:=zd hv;clear hv)
  | (go_at_call 77;refine(HRW.out w4).mono ?_;rintro e w5 ⟨pk5,ck5,pr5,cr5,rfl,hg,h1,h2⟩;have HG5:=zd hg;have HS5:=zd (And.intro h1 h2);clear hg h1 h2)
  | (go_at_call 62;refine(HB1.out _ HVA.out).mono ?_;rintro e w4 ⟨rfl,hv⟩;have HVB:=zd hv;clear hv)
  | (go_at_call 64;refine(HP1.out _ _ _ _ _ _ HV0.out HG3.out HS3.out.1 HS3.out.2).mono ?_;rintro e w4a ⟨rfl,hv⟩;have HVA:=zd hv;clear hv)
  | (go_at_call 77;refine(HRW.out w2).mono ?_;rintro e w3 ⟨pk3,ck3,pr3,cr3,rfl,hg,h1,h2⟩;have HG3:=zd hg;have HS3:=zd (And.intro h1 h2);clear hg h1 h2))
 clear HV0 HVA HVB HP1 HB1 HP2 HG3 HS3 HG5 HS5
 go_upto_region 8 with (first
  | (go_at_call 113;refine HV8.out.steps.mono ?_;rintro e w9 ⟨rfl,h5⟩;obtain rfl:w8=w9:=h5.symm)
  | (go_at_call 64;refine(HP3.out _ _ _ _ _ _ HV6.out HG7.out HS7.out.1 HS7.out.2).mono ?_;rintro e w8 ⟨rfl,hv⟩;have HV8:=zd hv;clear hv)
  | (go_at_call 77;refine(HRW.out w6).mono ?_;rintro e w7 ⟨pk7,ck7,pr7,cr7,rfl,hg,h1,h2⟩;have HG7:=zd hg;have HS7:=zd (And.intro h1 h2);clear hg h1 h2)
  | (go_at_call 113;refine HV6.out.steps.mono ?_;rintro e w9 ⟨rfl,h5⟩;obtain rfl:w6=w9:=h5.symm))
 have HRO:=zd (HV8.out.reopen HJ2.out (by have:=HN2.out;omega) (by decide))
 clear HP3 HG7 HS7 HV6
 go_upto_region 9 with (go_at_call 61;refine HRO.out.mono ?_;rintro e wa ⟨vb2,V3,al3,rfl,hv,hj,hx,hn⟩;have HVC:=zd hv;have HJ3:=zd hj;have HX3:=zd hx;have HN3:=zd hn;clear hv hj hx hn)
 have HXL3:Hid (XL (vx al3) [s20]):=zd (by rw[HX3.out];exact HXL2.out)
 have HLF3:Hid ((vx al3).life=3):=zd (by rw[HX3.out];exact HLF2.out)
 have HGE:Hid (Calls Tryz.prog 75 #[.pointer (some ⟨vb2,0,none⟩),.agg #[.string { data:=#[97] },.int .i64 1]] wa (ze2 wa s20 true)):=zd (HVC.out.get (i:=idS s20) HJ3.out ((HXL3.out.sh (idS s20) s20).2 ⟨by simp,rfl⟩))
 have HN2X:=HN2;clear HRO HV8 HJ2 HN2 HXL2 HLF2 HX3;have hsv:∀qk dk qr dr,shV qk dk qr dr s20 = .agg #[.slice qk 1 dk,.int .i64 1,.int .i64 2,.slice qr 1 dr]:=fun _ _ _ _=>rfl
 have HSV:=zd hsv;clear hsv
 go_upto_region 10 with (go_at_call 75;refine HGE.out.mono ?_;rintro e wb ⟨qk,dk,qr,dr,rfl,hg,h1,h2⟩;have HGB:=zd hg;have HRB:=zd (And.intro h1 h2);clear hg h1 h2;rw[HSV.out])
 have hga:=zg wb (.cells #[.slice qk 1 dk,.int .i64 1,.int .i64 2,.slice qr 1 dr] 97) none;have hbx:=heap_alloc_new wb (.cells #[.slice qk 1 dk,.int .i64 1,.int .i64 2,.slice qr 1 dr] 97);obtain⟨a0,a1,a2,a3,-⟩:=yx hbx;have HV10:=zd ((HVC.out.grown HGB.out).grown hga);have HR10:=zd (HRB.out.2.raw.grown hga (by simp))
 clear hga hbx HVC HGE HRB;generalize wb.alloc (.cells #[.slice qk 1 dk,.int .i64 1,.int .i64 2,.slice qr 1 dr] 97)=wc at *;have HLC:Hid (Calls Tryz.prog 76 #[.pointer (some ⟨vb2,0,none⟩)] wc fun e w'=>e = .returned (.int .i64 3)∧w'=wc):=zd (by
  have h1:=HV10.out.life HJ3.out;rw[HLF3.out] at h1
  exact h1)
 have HIC:Hid (Calls Tryz.prog 78 #[.pointer (some ⟨vb2,0,none⟩)] wc fun e w'=>∃p c,e = .returned (.slice p 1 c)∧wc.grownBy w' none):=zd (HV10.out.ids HJ3.out HXL3.out (by decide))
 go_upto_region 11 with (first
  | (go_at_call 78;refine HIC.out.mono ?_;rintro e wd ⟨pi,ci,rfl,hg⟩;have HVD:=zd (HV10.out.grown hg);have hcs:(convert 32 9 (.slice qr 1 dr)).run Tryz.prog wd = .ok (.string { data:=#[120] }) wd:=Xa (HR10.out.grown hg (by simp));replace a0:=hg.cell a0 (by simp);replace a2:=hg.cell a2 (by simp);replace a3:=hg.cell a3 (by simp);clear hg)
  | (go_at_call 76;refine HLC.out.mono ?_;rintro e w9 ⟨rfl,h5⟩;obtain rfl:wc=w9:=h5.symm))
 obtain⟨b4,al4,j4,x4,n4⟩:=HJ3.out.drop (i:=idS s20) (by rw[(HXL3.out.sh (idS s20) s20).2 ⟨by simp,rfl⟩];simp)
 obtain⟨V4,hV4⟩:∃V4,V3.drop (idS s20)=(V4,0):=⟨_,Prod.ext rfl b4⟩;rw[hV4] at j4 n4;simp only at j4 n4;have xl4:XL (vx al4) []:=by
  rw[x4];have h1:=HXL3.out.drop s20;have e:woI [s20] s20 = []:=by unfold woI;simp
  rw[e] at h1
  exact h1
 have lf4:(vx al4).life=3:=by rw[x4];exact HLF3.out
 have s4:=j4.sum xl4 (by rw[lf4];decide)
 obtain⟨hb4,hl4⟩:V4.broken=0∧V4.life=3:=by
  obtain⟨-,blk,hi⟩:=j4
  exact⟨hi.brk,by rw[←hi.xlife,lf4]⟩
 have e5:V4.born 3=(V4,4):=zhe hb4 (by decide) (by omega)
 obtain⟨b6,al6,j6,x6,n6⟩:=j4.born (n:=4) (by have:=HN3.out;have:=HN2X.out;omega) (by decide) (by decide) (by omega) (by rw[s4];decide)
 obtain⟨V6,hV6⟩:∃V6,V4.born 4=(V6,0):=⟨_,Prod.ext rfl b6⟩;rw[hV6] at j6 n6;simp only at j6 n6;have HDR:Hid (Calls Tryz.prog 69 #[.pointer (some ⟨vb2,0,none⟩),.agg #[.string { data:=#[97] },.int .i64 1]] wd fun e w'=>e = .returned (.int .i64 0)∧VQ W vb2 db V4 w'):=zd (HVD.out.drop (i:=idS s20) HJ3.out hV4)
 have HI4:Hid (∀w,VQ W vb2 db V4 w→Calls Tryz.prog 78 #[.pointer (some ⟨vb2,0,none⟩)] w fun e w'=>∃p c,e = .returned (.slice p 0 c)∧w.grownBy w' none):=zd fun w h=>h.ids j4 xl4 (by decide)
 have HB5:Hid (∀w,VQ W vb2 db V4 w→Calls Tryz.prog 62 #[.pointer (some ⟨vb2,0,none⟩),.int .i64 3] w fun e w'=>e = .returned (.int .i64 4)∧VQ W vb2 db V4 w'):=zd fun w h=>h.born j4 e5
 have HB6:Hid (∀w,VQ W vb2 db V4 w→Calls Tryz.prog 62 #[.pointer (some ⟨vb2,0,none⟩),.int .i64 4] w fun e w'=>e = .returned (.int .i64 0)∧VQ W vb2 db V6 w'):=zd fun w h=>h.born j4 hV6
 have HL6:Hid (∀w,VQ W vb2 db V6 w→Calls Tryz.prog 76 #[.pointer (some ⟨vb2,0,none⟩)] w fun e w'=>e = .returned (.int .i64 4)∧w'=w):=zd fun w h=>by
  have h1:=h.life j6;rw[x6] at h1
  exact h1
 clear b4 j4 x4 n4 xl4 lf4 s4 hb4 hl4 e5 b6 j6 x6 n6 hV4 hV6 HJ3 HN3 HXL3 HLF3 HLC HIC hcs a0 a1 a2 a3
 go_wp2_with (first
  | (go_at_call 76;refine(HL6.out _ HVG.out).mono ?_;rintro e w9 ⟨rfl,h5⟩;obtain rfl:wg=w9:=h5.symm)
  | (go_at_call 62;refine(HB6.out _ HVF.out).mono ?_;rintro e wg ⟨rfl,hv⟩;have HVG:=zd hv;clear hv)
  | (go_at_call 62;refine(HB5.out _ HVE2.out).mono ?_;rintro e wf ⟨rfl,hv⟩;have HVF:=zd hv;clear hv)
  | (go_at_call 78;refine(HI4.out _ HVE.out).mono ?_;rintro e we2 ⟨pj,cj,rfl,hg⟩;have HVE2:=zd (HVE.out.grown hg);clear hg)
  | (go_at_call 69;refine HDR.out.mono ?_;rintro e we ⟨rfl,hv⟩;have HVE:=zd hv;clear hv))
 go_ret
 exact⟨rfl,HVG.out.gr⟩
structure ShX where
 s:ShM
 kp:Option Addr
 kc:Nat
 rp:Option Addr
 rc:Nat
def shXD:ShX:=⟨⟨[],0,0,[]⟩,none,0,none,0⟩
structure ShXOk (W:World) (x:ShX):Prop where
 k:ye (fun k=>k<W.heap.size) W (.slice x.kp x.s.key.length x.kc) (zi x.s.key)
 r:ye (fun k=>k<W.heap.size) W (.slice x.rp x.s.row.length x.rc) (zi x.s.row)
 bl:BL x.s.key∧BL x.s.row
 v : -9223372036854775808≤x.s.znm∧x.s.znm≤9223372036854775807
 kl:x.s.key.length≤9223372036854775807
 rl:x.s.row.length≤9223372036854775807
theorem Qi.same {w w':World} {v:Value} {l:List ShM} (h:Qi w v l) (hs:∀g,v.ownBlock=some g→w'.heap[g]? = w.heap[g]?):Qi w' v l:=uk.same h hs
section
variable {W w w' w1 : World} {own : Nat → Prop} {vb db : Nat} {V V' : Vlt} {al al' : List (Int × List Int)} {l : List ShM} {a a' : Value} {k : Nat} {s : ShM}
structure AppW (W:World) (l:List ShM) (s:ShM) (v:Value) (w:World):Prop where
 row:Qi w v (woI l s ++ [s])
 gr:W.grownBy w none
 own:∀g,v.ownBlock=some g→W.heap.size≤g
theorem WoI.app5 {v v':Value} (h:WoI W l s v w) (hap:zcy w 102 4 shC v (woI l s ++ [s]) v' w'):AppW W l s v' w':=by
 obtain⟨p0,c0,e0,h1,h2,h3⟩:=h;obtain⟨a1,a2,a3⟩:=hap;refine⟨a1,xi h2 a2 h3,fun g hgv=>?_⟩
 rcases a3 with e|e
 ·exact h3 g (e.symm.trans hgv)
 ·rw[e] at hgv
  injection hgv with hgv
  have:=h2.size;omega
end
open Go.RowKit Go.Sf
structure Vd where
 kind:Int
 x:ShX
 bn:Nat
 bp:Option Addr
 bc:Nat
 n:Int
 F:List Int
 fp:Option Addr
 fc:Nat
def zbi:Vd:=⟨0,shXD,0,none,0,0,[],none,0⟩
def Vi (c:Vd):List Value:=[.int .u8 c.kind,.slice c.x.kp c.x.s.key.length c.x.kc,.int .i64 c.x.s.znm,.int .i64 c.x.s.node,.slice c.x.rp c.x.s.row.length c.x.rc,.slice c.bp c.bn c.bc,.int .i64 c.n,.slice c.fp c.F.length c.fc]
structure ziz (W:World) (c:Vd):Prop where
 x:ShXOk W c.x
 f:yc W (.slice c.fp c.F.length c.fc) c.F
 fb:BL c.F
 k:0≤c.kind∧c.kind≤255
 n : -9223372036854775808≤c.n∧c.n≤9223372036854775807
 bl:c.bn≤9223372036854775807
 fl:c.F.length≤9223372036854775807
def zd4 (w:World) (v:Value) (l:List Vd):Prop:=
 ∃p cap,v = .slice p l.length cap∧l.length≤9223372036854775807∧(∀x∈l,ziz w x)∧(l = []∨∃b off,p=some ⟨b,off,none⟩∧∀i,i<l.length→∀j u,(Vi (l.getD i zbi))[j]? = some u→w.cell? ⟨b,off+i*8+j,none⟩=some u)
def LargeV (w:World) (l:List Vd) (e:Ending) (w':World):Prop:=∃r,e = .returned (.bool r)∧w.grownBy w' none∧(r=false→l.length≤50∧∀c∈l,c.x.s.key.length≤5000∧c.x.s.row.length≤5000∧c.F.length≤5000)
set_option maxRecDepth 100000 in
theorem zfp (v:Value) (l:List Vd) (w:World) (h:zd4 w v l) :
  Calls Tryz.prog 70 #[v] w (LargeV w l):=by
 obtain⟨p,cap,rfl,hlen,hok,hrow⟩:=h
 rcases Nat.lt_or_ge 50 l.length with h50|h50
 ·clear hrow hok
  go_enter Tryz.func70,Tryz.ntmps70
  go_wp2
  go_ret
  exact⟨true,rfl,zm _,by simp⟩
 ·have HK:=zd hok
  have HR:=zd hrow;have HLl:=zd (show l.length≤50 from h50)
  clear hok hrow;have hnn:∃m,m=l.length:=⟨_,rfl⟩;obtain⟨m,hn⟩:=hnn;have HN:=zd hn;rw[←hn] at h50 hlen ⊢;clear hn
  go_enter Tryz.func70,Tryz.ntmps70
  go_wp2
  go_loopw [3,4] (fun s i wr=>w.grownBy wr none∧∃(j:Nat) (x:Int),j≤m∧i = .int .i64 j∧s = .int .i64 x∧0≤x∧x≤20000∧(∀c∈l.take j,c.x.s.key.length≤5000∧c.x.s.row.length≤5000∧c.F.length≤5000)) (fun _ i _=>m-(intOf i).toNat)
  case atStart=>exact⟨zm _,0,0,Nat.zero_le _,rfl,rfl,by omega,by omega,by simp⟩
  case round=>
   obtain⟨hg,j,x,hj,rfl,rfl,hx0,hx1,hall⟩:=hrel;have HA:=zd hall;clear hall
   rcases Nat.lt_or_ge j m with hlt|hge
   ·rcases HR.out with h0|⟨b,off,rfl,hc⟩
    ·exfalso;have:=HN.out;rw[h0] at this;simp at this;omega
    ·have hjl:j<l.length:=by rw[←HN.out];exact hlt
     have hget:l.getD j zbi=l[j]:=by simp[List.getD_eq_getElem?_getD,List.getElem?_eq_getElem hjl]
     have hcj:=hc j hjl;rw[hget] at hcj;have c0:=hg.cell (hcj 0 _ rfl) (by simp)
     have c1:=hg.cell (hcj 1 _ rfl) (by simp)
     have c2:=hg.cell (hcj 2 _ rfl) (by simp)
     have c3:=hg.cell (hcj 3 _ rfl) (by simp)
     have c4:=hg.cell (hcj 4 _ rfl) (by simp)
     have c5:=hg.cell (hcj 5 _ rfl) (by simp)
     have c6:=hg.cell (hcj 6 _ rfl) (by simp)
     have c7:=hg.cell (hcj 7 _ rfl) (by simp)
     rw[Nat.add_zero] at c0;have hbw:b<wr.heap.size:=xg c0;have hkk:=HK.out l[j] (List.getElem_mem _);have htk:l.take (j+1)=l.take j ++ [l[j]]:=List.take_succ_eq_append_getElem hjl;have HT:=zd htk;have hb:=hkk.bl;have hf:=hkk.fl;have hkl:=hkk.x.kl;have hrl:=hkk.x.rl;clear hc hcj htk hkk hget;have HG:=zd hg;clear hg;have HC:Hid (∀y∈l.take (j+1),y∈l.take j∨y=l[j]):=(fun y hy=>by
      rw[HT.out] at hy
      rcases List.mem_append.1 hy with h|h
      ·exact Or.inl h
      ·exact Or.inr (by simpa using h))
     generalize l[j]=c at *;obtain⟨kind,⟨⟨key,znm,node,row⟩,kp,kc,rp,rc⟩,bn,bp,bc,n,F,fp,fc⟩:=c;simp only at c0 c1 c2 c3 c4 c5 c6 c7 hb hf hkl hrl;generalize hfn:F.length=fn at *;generalize hkn:key.length=kn at *;generalize hrn:row.length=rn at *;have HFN:=zd (And.intro hfn (And.intro hkn hrn));clear hfn hkn hrn
     by_cases h1:5000-x<(kn:Int)
     ·go_wp2
      go_ret
      exact⟨true,rfl,zo HG.out (zg _ _ none),by simp⟩
     ·by_cases h2:5000-x<(rn:Int)
      ·go_wp2
       go_ret
       exact⟨true,rfl,zo HG.out (zg _ _ none),by simp⟩
      ·by_cases h3:5000-x<(bn:Int)
       ·go_wp2
        go_ret
        exact⟨true,rfl,zo HG.out (zg _ _ none),by simp⟩
       ·by_cases h4:5000-x<(fn:Int)
        ·go_wp2
         go_ret
         exact⟨true,rfl,zo HG.out (zg _ _ none),by simp⟩
        ·go_wp2
         refine⟨⟨zo HG.out (zg _ _ none),j+1,x+kn+rn+bn+fn,by omega,by simp,by simp,by omega,by omega,fun y hy=>?_⟩,by simp[intOf];omega⟩
         rcases HC.out y hy with h|rfl
         ·exact HA.out y h
         ·exact⟨by show key.length≤5000;rw[HFN.out.2.1];omega,by show row.length≤5000;rw[HFN.out.2.2];omega,by show F.length≤5000;rw[HFN.out.1];omega⟩
   ·have HG:=zd hg
    clear hg;go_wp2
    go_ret
    refine⟨_,rfl,HG.out,fun _=>⟨HLl.out,?_⟩⟩
    have:=HA.out;rw[List.take_of_length_le (by rw[←HN.out];omega)] at this
    exact this
def hasC (V:JV) (a:Value):Array Value:=#[.string (ofB (hsS V)),.bool (hsB V),a]
structure HB (W:World) (own:Nat→Prop) (nb:Nat) (V:JV) (a:Value) (k:Nat) (w:World):Prop where
 box:w.heap[nb]? = some (.cells (hasC V a) 85 (0,0))
 nbo:own nb∧W.heap.size≤nb
 row:TRow w a V.entries
 rowo:∀g,a.ownBlock=some g→own g∧W.heap.size≤g
 ok:VOk V k
section
variable {W w w' : World} {own own' : Nat → Prop} {jb db nb tb xb : Nat} {S : Sto} {V X : JV} {all : List (Int × List Int)} {blk : Int → List Nat} {a nv : Value} {k : Nat}
theorem xd {w:World} {b:Nat} {o:Obj} (h:w.heap[b]? = some o):b<w.heap.size:=(Array.getElem?_eq_some_iff.1 h).1
theorem zll {w:World} {b1 b2:Nat} {c1 c2:Array Value} {T1 T2:TypeId} {z1 z2:Nat × Nat} (h1:w.heap[b1]? = some (.cells c1 T1 z1)) (h2:w.heap[b2]? = some (.cells c2 T2 z2)) (hn:T1≠T2):b1≠b2:=fun e=>by
 subst e;rw[h1] at h2
 injection h2 with h2
 injection h2 with _ h2
 exact hn h2
end
end Go.Proofs.YtbcbhlfjgobejaaGreat
