/- From: the walk. Conditions: none, or as the theorems say. -/
import Derived.Test.YtjfelfjobeeenaaGreatN31
import Derived.Deep.DeepCutAuto
import Derived.Deep.RegionHeld3
namespace Go.Proofs.YtjfelfjobeeenaaGreat
set_option maxHeartbeats 200000000
set_option linter.unusedVariables false
set_option linter.unusedSimpArgs false
open Go.RowKit Go.Sf Go.Shelf
theorem ztm {l:List Int} {j:Nat} {z:Int} (h:j<l.length):(l.set j z).getD j 0=z:=by simp[List.getD,h]
theorem Jc {w:World} {bx:Nat} {k:ByteArray} {v:Int} {T:TypeId} (h:w.heap[bx]? = some (.cells #[.string k,.int .i64 v] T (0,0))):w.cell? ⟨bx,0,none⟩=some (.string k)∧w.cell? ⟨bx,1,none⟩=some (.int .i64 v):=⟨by simp[World.cell?,h],by simp[World.cell?,h]⟩
theorem Zy {w w':World} {bx r:Nat} {o:Obj} (h:w.heap[bx]? = some o) (ht:yc (fun k=>k=r) w w') (hn:bx≠r):w'.heap[bx]? = some o:=(ht.block bx (yi h) hn).trans h
theorem xt {w w':World} {bx:Nat} {o:Obj} {b:Option Nat} (h:w.heap[bx]? = some o) (hg:w.grownBy w' b) (hn:some bx≠b):w'.heap[bx]? = some o:=(hg.block bx (yi h) hn).trans h
theorem FS.rlt {W w:World} {tb:Nat} {T:Tab} {t:List Int} (h:FS W w tb T t):W.heap.size+1+1<w.heap.size:=by obtain⟨v,hv,-⟩:=h.rdr.ex;exact yi hv
theorem zr.unput {W w:World} {RES:Option Tab} {l0:List Int} {c:List PanicEntry} {a:Act} {d:Option Tmp} {v:Value} (h2:d≠some 2) (h3:d≠some 3) (h:zr W RES l0 (.panic c) (a.put d v) w):zr W RES l0 (.panic c) a w:=by
 obtain⟨e1,e2,e3,e4,e5,e6⟩:=h
 cases d with
 | none=>exact⟨e1,e2,e3,e4,e5,e6⟩
 | some d=>
  have n2:d≠2:=fun e=>h2 (by rw[e])
  have n3:d≠3:=fun e=>h3 (by rw[e])
  refine⟨e1,e2,e3,?_,?_,e6⟩
  ·rw[←e4];simp[Act.put,Array.getElem?_setIfInBounds,n2]
  ·rw[←e5];simp[Act.put,Array.getElem?_setIfInBounds,n3]
theorem zr.up {W:World} {RES:Option Tab} {l0:List Int} {c:List PanicEntry} {a:Act} {d:Option Tmp} {v:Value} {w:World} (hd:(d != some 2 && d != some 3)=true) (h:zr W RES l0 (.panic c) (a.put d v) w):zr W RES l0 (.panic c) a w:=by
 simp only[Bool.and_eq_true,bne_iff_ne] at hd
 exact zr.unput hd.1 hd.2 h
set_option maxRecDepth 100000 in
theorem zgw {W:World} {v:Value} {l0:List Int} (hv:uy W.heap.size W v l0) (hl:BL l0) (hfit:∀L,zd5 l0=some L→zd1 L):Calls Tryz.prog 41 #[v] W (zlg W l0):=by
 have hmf:∀(fn:Fn) (first cap:Array Value) (w:World),(Instr.makeFunc fn first cap).run Tryz.prog w = .ok (.func fn first cap) w:=fun _ _ _ _=>rfl
 obtain⟨p,cap,rfl,-⟩:=hv.ex;have HV:=za hv;have HL:=za hl;have HF0:=za (F0.start hv hl);have HP0:Hid (zd5 l0=(rd 2 l0).bind fun n=>(rd 2 n.2).bind fun w=>(rd 8 w.2).bind fun o=>(rd 8 o.2).bind fun x=>fX n.1 w.1 (s64 o.1) (s64 x.1) x.2):=(show _=_ from rfl)
 have HFIT:=za hfit;clear hfit hv hl
 go_enter_defers Tryz.func41,Tryz.ntmps41
 refine Code.wp_mono zon ?_;generalize zd5 l0=RES at *
 go_upto_region 3 with fail
 generalize ((W.alloc (.cells #[.pointer none] 38)).alloc (.cells #[.int .i64 0] 22)).alloc (.cells #[.slice p l0.length cap] 107)=w0 at *
 go_upto_region 4 with (first
  | (go_at_call 57;refine(HF0.out.num 2 (by omega)).mono ?_;rintro e w1 (⟨x1,t1,hr,rfl,hf⟩|⟨hr,rfl,hf⟩) <;> first|(have HX1:=za hr;have HF1:=za hf;have hp:=HP0.out;rw[hr,Option.bind_some] at hp;dsimp only at hp;have HP1:=za hp;(try dsimp only);clear hp hf;have hx1:x1<256 ^ 2:=za0 HF0.out.bl hr;rw[Ub (by omega)];clear hr)|(simp only[xh];have hp:=HP0.out;rw[hr] at hp;exact zr.bad hf rfl rfl (yk hp)))
  | (go_at_call 57;refine(HF1.out.num 2 (by omega)).mono ?_;rintro e w2 (⟨x2,t2,hr,rfl,hf⟩|⟨hr,rfl,hf⟩) <;> first|(have HX2:=za hr;have HF2:=za hf;have hp:=HP1.out;rw[hr,Option.bind_some] at hp;dsimp only at hp;have HP2:=za hp;(try dsimp only);clear hp hf;have hx2:x2<256 ^ 2:=za0 HF1.out.bl hr;rw[Ub (by omega)];clear hr)|(simp only[xh];have hp:=HP1.out;rw[hr] at hp;exact zr.bad hf rfl rfl (yk hp))))
 obtain⟨N,hN⟩:∃N:Nat,(N:Int)=vm x1:=⟨(vm x1).toNat,by unfold vm;(repeat' split) <;> omega⟩
 have HN:=za hN;have c2:=HF2.out.c2;have f2:=HF2.out.free2;have HC2:=za c2;have HFR2:=za HF2.out.b2;clear hN c2 f2;clear HF0 HF1 HP0 HP1 HX1 HX2
 go_upto_region 5 with (go_at_call 30;refine(zqd x1 x2 N HN.out w2).mono ?_;rintro e w3 ⟨tb,rfl,htb,hrep,hg⟩;have c2:=hg.cell HC2.out (by simp);have f2:=yr ((hg.block _ (yi HFR2.out) (by simp)).trans HFR2.out) 0;have HF2n:=za (HF2.out.new hrep hg (zt5 hrep htb));clear hrep hg htb)
 clear c2 f2 HC2 HFR2 HF2;generalize w3.setCell ⟨W.heap.size,0,none⟩ (.pointer (some ⟨tb,0,none⟩))=wn at *;generalize w2.heap.size=nb at *;have HFd:=za (HF2n.out.grow (zf (zd _)));clear HF2n;have hS0:(fun w':World=>w'.cell? ⟨W.heap.size,0,none⟩=some (.pointer (some ⟨tb,0,none⟩))) wn.drew:=HFd.out.c2
 dsimp only at hS0;refine wp_region_held_drew (S:=fun w':World=>w'.cell? ⟨W.heap.size,0,none⟩=some (.pointer (some ⟨tb,0,none⟩))) (by kernel_rfl) hS0 (fun hHeld=>?_)
 clear hS0;refine tg 0 ?_ hHeld ?_ ?_ rfl (by kernel_rfl) rfl fun _ _ _=>zr.up rfl
 rotate_left
 ·rintro w s1;go_simp;try with_reducible rfl
 (try simp only[Act.put,pA,pB,pC])
 refine tg 1 ?_ hHeld ?_ ?_ rfl (by kernel_rfl) rfl fun _ _ _=>zr.up rfl
 rotate_left
 ·rintro w s1;go_simp;try with_reducible rfl
 (try simp only[Act.put,pA,pB,pC])
 refine tg 2 ?_ hHeld ?_ ?_ rfl (by kernel_rfl) rfl fun _ _ _=>zr.up rfl
 rotate_left
 ·rintro w s1;go_simp;try with_reducible rfl
 (try simp only[Act.put,pA,pB,pC])
 refine tg 4 ?_ hHeld ?_ ?_ rfl (by kernel_rfl) rfl fun _ _ _=>zr.up rfl
 rotate_left
 ·rintro w s1;go_simp;try with_reducible rfl
 (try simp only[Act.put,pA,pB,pC])
 refine rdy 3 (fun K hK=>?_) rfl (by kernel_rfl)
 go_simp
 refine(HFd.out.num 8 (by omega)).mono ?_
 rintro e w3 (⟨x3,t3,hr,rfl,hf,ht3⟩|⟨hr,rfl,hf⟩)
 rotate_left
 ·have hp:=HP2.out
  rw[hr] at hp
  exact zr.bad hf rfl rfl (yk hp)
 have HX3:=za hr;have HF3:=za hf;have hp:=HP2.out;rw[hr,Option.bind_some] at hp;dsimp only at hp;have HP3:=za hp
 (try dsimp only)
 clear hp hf;clear hr;refine hK.out _ _ (HF3.out.c2) (fun hHeld=>?_)
 clear hK K
 (try simp only[Act.put,pA,pB,pC])
 refine rdy 5 (fun K hK=>?_) rfl (by kernel_rfl)
 go_simp
 refine(HF3.out.num 8 (by omega)).mono ?_
 rintro e w4 (⟨x4,t4,hr,rfl,hf,ht4⟩|⟨hr,rfl,hf⟩)
 rotate_left
 ·have hp:=HP3.out
  rw[hr] at hp
  exact zr.bad hf rfl rfl (yk hp)
 have HX4:=za hr;have HF4:=za hf;have hp:=HP3.out;rw[hr,Option.bind_some] at hp;dsimp only at hp;have HP4:=za hp
 (try dsimp only)
 clear hp hf;clear hr;refine hK.out _ _ (HF4.out.c2) (fun hHeld=>?_)
 clear hK K
 (try simp only[Act.put,pA,pB,pC])
 generalize s64 x3=o at *;generalize s64 x4=x at *;refine tg 6 ?_ hHeld ?_ ?_ rfl (by kernel_rfl) rfl fun _ _ _=>zr.up rfl
 rotate_left
 ·rintro w s1;go_simp;try with_reducible rfl
 (try simp only[Act.put,pA,pB,pC])
 refine tg 7 ?_ hHeld ?_ ?_ rfl (by kernel_rfl) rfl fun _ _ _=>zr.up rfl
 rotate_left
 ·rintro w s1;go_simp;try with_reducible rfl
 (try simp only[Act.put,pA,pB,pC])
 have k1:=HF4.out.rep.c1;have z1:=HF4.out.rep.free 1;refine rdy 8 (fun K hK=>?_) rfl (by kernel_rfl)
 go_simp
 have HF5:=za (HF4.out.set (b:=tb) (by simp[Tab.blocks]) (Zm _ _ _ _) (HF4.out.rep.upd_offers o) rfl)
 clear k1 z1;generalize w4.setCell ⟨tb,1,none⟩ (.int .i64 o)=w5 at *;refine hK.out _ _ (HF5.out.c2) (fun hHeld=>?_)
 clear hK K
 (try simp only[Act.put,pA,pB,pC])
 refine tg 9 ?_ hHeld ?_ ?_ rfl (by kernel_rfl) rfl fun _ _ _=>zr.up rfl
 rotate_left
 ·rintro w s1;go_simp;try with_reducible rfl
 (try simp only[Act.put,pA,pB,pC])
 refine tg 10 ?_ hHeld ?_ ?_ rfl (by kernel_rfl) rfl fun _ _ _=>zr.up rfl
 rotate_left
 ·rintro w s1;go_simp;try with_reducible rfl
 (try simp only[Act.put,pA,pB,pC])
 have k1:=HF5.out.rep.c2;have z1:=HF5.out.rep.free 2;refine rdy 11 (fun K hK=>?_) rfl (by kernel_rfl)
 go_simp
 have HF6:=za (HF5.out.set (b:=tb) (by simp[Tab.blocks]) (Zm _ _ _ _) (HF5.out.rep.upd_next x) rfl)
 clear k1 z1;generalize w5.setCell ⟨tb,2,none⟩ (.int .i64 x)=w6 at *;refine hK.out _ _ (HF6.out.c2) (fun hHeld=>?_)
 clear hK K
 (try simp only[Act.put,pA,pB,pC])
 refine wpAnyH_done (by kernel_rfl) ?_ _
 obtain⟨T,hf6,hn6⟩:∃T,FS W w6 tb T t4∧T.norm=mkN (yu N x2) o x (List.replicate N 0) [] [] [] [] []:=⟨_,HF6.out,rfl⟩;have HF7:=za hf6;have HN7:=za hn6;clear hf6 hn6 HF6 HF5 HF4 HF3 HFd HX3 HX4 HP2 HP3;have c2:=HF7.out.c2;have k0:=HF7.out.k0 HN7.out;have k1:=HF7.out.k1 HN7.out;have k2:=HF7.out.k2 HN7.out;have k3:=HF7.out.k3 HN7.out (n:=N) (by simp)
 generalize hcw:yu N x2=cw at *;have HCW:=za hcw;clear hcw
 by_cases a1:(x1:Int)=N
 case neg=>
  go_wp2_with (go_at_call 59;first|(refine(xu _).mono ?_;rintro e wz ⟨rfl,rfl⟩)|(refine(yt _).mono ?_;rintro e wz ⟨rfl,rfl⟩;simp only[xh]))
  exact zr.bad HF7.out.fb rfl rfl (yk (HP4.out.trans (zp2 fun e=>a1 (by have:=HN.out;omega))))
 obtain rfl:N=x1:=by omega
 by_cases a2:(x2:Int)=cw
 case neg=>
  go_wp2_with (go_at_call 59;first|(refine(xu _).mono ?_;rintro e wz ⟨rfl,rfl⟩)|(refine(yt _).mono ?_;rintro e wz ⟨rfl,rfl⟩;simp only[xh]))
  exact zr.bad HF7.out.fb rfl rfl (yk (HP4.out.trans (zp2 fun e=>a2 (by have:=HCW.out;omega))))
 subst a2
 by_cases a3:0≤o
 case neg=>
  go_wp2_with (go_at_call 59;first|(refine(xu _).mono ?_;rintro e wz ⟨rfl,rfl⟩)|(refine(yt _).mono ?_;rintro e wz ⟨rfl,rfl⟩;simp only[xh]))
  exact zr.bad HF7.out.fb rfl rfl (yk (HP4.out.trans (zp2 fun e=>absurd e.2.2.1 (by omega))))
 by_cases a4:1≤x
 case neg=>
  go_wp2_with (go_at_call 59;first|(refine(xu _).mono ?_;rintro e wz ⟨rfl,rfl⟩)|(refine(yt _).mono ?_;rintro e wz ⟨rfl,rfl⟩;simp only[xh]))
  exact zr.bad HF7.out.fb rfl rfl (yk (HP4.out.trans (zp2 fun e=>absurd e.2.2.2 (by omega))))
 go_upto_block 0 with (go_at_call 59;first|(refine(xu _).mono ?_;rintro e wz ⟨rfl,rfl⟩)|(refine(yt _).mono ?_;rintro e wz ⟨rfl,rfl⟩;simp only[xh]))
 have HP7:Hid (RES=fL N x2 o x (N-0) 0 (List.replicate N 0) t4):=(show _=_ from HP4.out.trans (zth HN.out.symm HCW.out a3 a4))
 clear c2 k0 k1 k2 k3 a1 a3 a4 HP4 hx2 HCW;have hN2:(N:Int)≤255:=by have h:=HN.out;unfold vm at h;(repeat' split at h) <;> omega
 clear hx1 HN
 go_cut [67] from 68 to 101 (fun _ wx=>∃(T:Tab) (tx Lx:List Int),FS W wx tb T tx∧T.norm=mkN x2 o x Lx [] [] [] [] []∧RES=fC0 N x2 o x Lx tx)
 case first=>
  go_wp2
  go_loopw [67] (fun s wr=>∃(j:Nat) (T:Tab) (tx Lx:List Int),j≤N∧s = .int .i64 j∧FS W wr tb T tx∧T.norm=mkN x2 o x Lx [] [] [] [] []∧Lx.length=N∧RES=fL N x2 o x (N-j) j Lx tx) (fun s _=>N-(intOf s).toNat)
  case atStart=>exact⟨0,T,t4,_,Nat.zero_le _,rfl,HF7.out,HN7.out,by simp,HP7.out⟩
  case round=>
   clear HF7 HN7 HP7;obtain⟨j,T,tx,Lx,hj,rfl,hf,hn,hl,hp⟩:=hrel;have HF8:=za hf;have HN8:=za hn;have HLX:=za hl
   by_cases hlt:j<N
   ·have HJ:=za hlt
    have hjI:(j:Int)<N:=by omega
    have HP8:=za (hp.trans (fL_step hlt));clear hf hn hl hp
    go_upto_region 10 with fail
    have HF8d:=za (HF8.out.grow (zf (zd _)));have hS0:(fun w':World=>w'.cell? ⟨W.heap.size,0,none⟩=some (.pointer (some ⟨tb,0,none⟩))∧w'.cell? ⟨tb,3,none⟩=some (.slice (some ⟨T.lb,0,none⟩) N N)) _:=⟨HF8d.out.c2,HF8d.out.k3 HN8.out HLX.out⟩
    dsimp only at hS0;refine wp_region_held_drew (S:=fun w':World=>w'.cell? ⟨W.heap.size,0,none⟩=some (.pointer (some ⟨tb,0,none⟩))∧w'.cell? ⟨tb,3,none⟩=some (.slice (some ⟨T.lb,0,none⟩) N N)) (by kernel_rfl) hS0 (fun hHeld=>?_)
    clear hS0;refine tg 0 ?_ hHeld ?_ ?_ rfl (by kernel_rfl) rfl fun _ _ _=>zr.up rfl
    rotate_left
    ·rintro w ⟨s1,s2⟩;go_simp;try with_reducible rfl
    (try simp only[Act.put,pA,pB,pC])
    refine tg 1 ?_ hHeld ?_ ?_ rfl (by kernel_rfl) rfl fun _ _ _=>zr.up rfl
    rotate_left
    ·rintro w ⟨s1,s2⟩;go_simp;try with_reducible rfl
    (try simp only[Act.put,pA,pB,pC])
    refine tg 2 ?_ hHeld ?_ ?_ rfl (by kernel_rfl) rfl fun _ _ _=>zr.up rfl
    rotate_left
    ·rintro w ⟨s1,s2⟩;go_simp;try with_reducible rfl
    (try simp only[Act.put,pA,pB,pC])
    refine tg 3 ?_ hHeld ?_ ?_ rfl (by kernel_rfl) rfl fun _ _ _=>zr.up rfl
    rotate_left
    ·rintro w ⟨s1,s2⟩;go_simp;try with_reducible rfl
    (try simp only[Act.put,pA,pB,pC])
    refine tg 4 ?_ hHeld ?_ ?_ rfl (by kernel_rfl) rfl fun _ _ _=>zr.up rfl
    rotate_left
    ·rintro w ⟨s1,s2⟩;go_simp;try with_reducible rfl
    (try simp only[Act.put,pA,pB,pC])
    refine tg 5 ?_ hHeld ?_ ?_ rfl (by kernel_rfl) rfl fun _ _ _=>zr.up rfl
    rotate_left
    ·rintro w ⟨s1,s2⟩;go_simp;try with_reducible rfl
    (try simp only[Act.put,pA,pB,pC])
    refine rdy 6 (fun K hK=>?_) rfl (by kernel_rfl)
    go_simp
    refine(HF8d.out.num 8 (by omega)).mono ?_
    rintro e w10 (⟨x10,t10,hr,rfl,hf,ht10⟩|⟨hr,rfl,hf⟩)
    rotate_left
    ·have hp:=HP8.out
     rw[hr] at hp
     exact zr.bad hf rfl rfl (yk hp)
    have HX10:=za hr;have HF10:=za hf;have hp:=HP8.out;rw[hr,Option.bind_some] at hp;dsimp only at hp;have HP10:=za hp
    (try dsimp only)
    clear hp hf;clear hr;refine hK.out _ _ (⟨HF10.out.c2,HF10.out.k3 HN8.out HLX.out⟩) (fun hHeld=>?_)
    clear hK K
    (try simp only[Act.put,pA,pB,pC])
    generalize s64 x10=z at *;have k5:=HF10.out.life HN8.out (j:=j) (by rw[HLX.out];exact HJ.out)
    have z5:=HF10.out.rep.lfree j;refine tg 7 ?_ hHeld ?_ ?_ rfl (by kernel_rfl) rfl fun _ _ _=>zr.up rfl
    rotate_left
    ·rintro w ⟨s1,s2⟩;go_simp;try with_reducible rfl
    (try simp only[Act.put,pA,pB,pC])
    refine rdy 8 (fun K hK=>?_) rfl (by kernel_rfl)
    go_simp
    obtain⟨T2,hf,hn,hlb⟩:=HF10.out.setLife HN8.out j z;clear k5 z5;generalize w10.setCell ⟨T.lb,j,none⟩ (.int .i64 z)=w11 at *;have HF11:=za hf;have HN11:=za hn;have HLB:=za hlb;clear hf hn hlb;refine hK.out _ _ (⟨HF11.out.c2,by rw[←HLB.out];exact HF11.out.k3 HN11.out (by simp[HLX.out])⟩) (fun hHeld=>?_)
    clear hK K
    (try simp only[Act.put,pA,pB,pC])
    refine wpAnyH_done (by kernel_rfl) ?_ _
    clear hHeld
    go_upto_region 11 with fail
    have HLX2:Hid ((Lx.set j z).length=N):=(show _=_ from by rw[List.length_set];exact HLX.out)
    have HGD:Hid ((Lx.set j z).getD j 0=z):=(show _=_ from ztm (by rw[HLX.out];exact HJ.out))
    by_cases z0:0≤z
    ·by_cases z1:z≤o
     ·have HF11d:=za (HF11.out.grow (zf (zd _)))
      have hS0:(fun w':World=>w'.cell? ⟨W.heap.size,0,none⟩=some (.pointer (some ⟨tb,0,none⟩))∧w'.cell? ⟨tb,3,none⟩=some (.slice (some ⟨T2.lb,0,none⟩) N N)∧w'.cell? ⟨T2.lb,j,none⟩=some (.int .i64 z)∧w'.cell? ⟨tb,1,none⟩=some (.int .i64 o)) _:=⟨HF11d.out.c2,HF11d.out.k3 HN11.out HLX2.out,(HF11d.out.life HN11.out (j:=j) (by rw[HLX2.out];exact HJ.out)).trans (by rw[HGD.out]),HF11d.out.k1 HN11.out⟩
      dsimp only at hS0;refine wp_region_held_drew (S:=fun w':World=>w'.cell? ⟨W.heap.size,0,none⟩=some (.pointer (some ⟨tb,0,none⟩))∧w'.cell? ⟨tb,3,none⟩=some (.slice (some ⟨T2.lb,0,none⟩) N N)∧w'.cell? ⟨T2.lb,j,none⟩=some (.int .i64 z)∧w'.cell? ⟨tb,1,none⟩=some (.int .i64 o)) (by kernel_rfl) hS0 (fun hHeld=>?_)
      clear hS0;refine tg 0 ?_ hHeld ?_ ?_ rfl (by kernel_rfl) rfl fun _ _ _=>zr.up rfl
      rotate_left
      ·rintro w ⟨s1,s2,s3,s4⟩;go_simp;try with_reducible rfl
      (try simp only[Act.put,pA,pB,pC])
      refine tg 1 ?_ hHeld ?_ ?_ rfl (by kernel_rfl) rfl fun _ _ _=>zr.up rfl
      rotate_left
      ·rintro w ⟨s1,s2,s3,s4⟩;go_simp;try with_reducible rfl
      (try simp only[Act.put,pA,pB,pC])
      refine tg 2 ?_ hHeld ?_ ?_ rfl (by kernel_rfl) rfl fun _ _ _=>zr.up rfl
      rotate_left
      ·rintro w ⟨s1,s2,s3,s4⟩;go_simp;try with_reducible rfl
      (try simp only[Act.put,pA,pB,pC])
      refine tg 3 ?_ hHeld ?_ ?_ rfl (by kernel_rfl) rfl fun _ _ _=>zr.up rfl
      rotate_left
      ·rintro w ⟨s1,s2,s3,s4⟩;go_simp;try with_reducible rfl
      (try simp only[Act.put,pA,pB,pC])
      refine tg 4 ?_ hHeld ?_ ?_ rfl (by kernel_rfl) rfl fun _ _ _=>zr.up rfl
      rotate_left
      ·rintro w ⟨s1,s2,s3,s4⟩;go_simp;try with_reducible rfl
      (try simp only[Act.put,pA,pB,pC])
      refine tg 5 ?_ hHeld ?_ ?_ rfl (by kernel_rfl) rfl fun _ _ _=>zr.up rfl
      rotate_left
      ·rintro w ⟨s1,s2,s3,s4⟩;go_simp;try with_reducible rfl
      (try simp only[Act.put,pA,pB,pC])
      refine tg 6 ?_ hHeld ?_ ?_ rfl (by kernel_rfl) rfl fun _ _ _=>zr.up rfl
      rotate_left
      ·rintro w ⟨s1,s2,s3,s4⟩;go_simp;try with_reducible rfl
      (try simp only[Act.put,pA,pB,pC])
      refine tg 7 ?_ hHeld ?_ ?_ rfl (by kernel_rfl) rfl fun _ _ _=>zr.up rfl
      rotate_left
      ·rintro w ⟨s1,s2,s3,s4⟩;go_simp;try with_reducible rfl
      (try simp only[Act.put,pA,pB,pC])
      refine tg 8 ?_ hHeld ?_ ?_ rfl (by kernel_rfl) rfl fun _ _ _=>zr.up rfl
      rotate_left
      ·rintro w ⟨s1,s2,s3,s4⟩;go_simp;try with_reducible rfl
      (try simp only[Act.put,pA,pB,pC])
      refine tg 9 ?_ hHeld ?_ ?_ rfl (by kernel_rfl) rfl fun _ _ _=>zr.up rfl
      rotate_left
      ·rintro w ⟨s1,s2,s3,s4⟩;go_simp;try with_reducible rfl
      (try simp only[Act.put,pA,pB,pC])
      refine tg 10 ?_ hHeld ?_ ?_ rfl (by kernel_rfl) rfl fun _ _ _=>zr.up rfl
      rotate_left
      ·rintro w ⟨s1,s2,s3,s4⟩;go_simp;try with_reducible rfl
      (try simp only[Act.put,pA,pB,pC])
      refine tg 11 ?_ hHeld ?_ ?_ rfl (by kernel_rfl) rfl fun _ _ _=>zr.up rfl
      rotate_left
      ·rintro w ⟨s1,s2,s3,s4⟩;go_simp;try with_reducible rfl
      (try simp only[Act.put,pA,pB,pC])
      refine tg 12 ?_ hHeld ?_ ?_ rfl (by kernel_rfl) rfl fun _ _ _=>zr.up rfl
      rotate_left
      ·rintro w ⟨s1,s2,s3,s4⟩;go_simp;try with_reducible rfl
      (try simp only[Act.put,pA,pB,pC])
      refine tg 13 ?_ hHeld ?_ ?_ rfl (by kernel_rfl) rfl fun _ _ _=>zr.up rfl
      rotate_left
      ·rintro w ⟨s1,s2,s3,s4⟩;go_simp;try with_reducible rfl
      (try simp only[Act.put,pA,pB,pC])
      refine tg 14 ?_ hHeld ?_ ?_ rfl (by kernel_rfl) rfl fun _ _ _=>zr.up rfl
      rotate_left
      ·rintro w ⟨s1,s2,s3,s4⟩;go_simp;try with_reducible rfl
      (try simp only[Act.put,pA,pB,pC])
      refine tg 15 ?_ hHeld ?_ ?_ rfl (by kernel_rfl) rfl fun _ _ _=>zr.up rfl
      rotate_left
      ·rintro w ⟨s1,s2,s3,s4⟩;go_simp;try with_reducible rfl
      (try simp only[Act.put,pA,pB,pC])
      refine tg 16 ?_ hHeld ?_ ?_ rfl (by kernel_rfl) rfl fun _ _ _=>zr.up rfl
      rotate_left
      ·rintro w ⟨s1,s2,s3,s4⟩;go_simp;try with_reducible rfl
      (try simp only[Act.put,pA,pB,pC])
      refine tg 17 ?_ hHeld ?_ ?_ rfl (by kernel_rfl) rfl fun _ _ _=>zr.up rfl
      rotate_left
      ·rintro w ⟨s1,s2,s3,s4⟩;go_simp;try with_reducible rfl
      (try simp only[Act.put,pA,pB,pC])
      refine tg 18 ?_ hHeld ?_ ?_ rfl (by kernel_rfl) rfl fun _ _ _=>zr.up rfl
      rotate_left
      ·rintro w ⟨s1,s2,s3,s4⟩;go_simp;try with_reducible rfl
      (try simp only[Act.put,pA,pB,pC])
      refine tg 19 ?_ hHeld ?_ ?_ rfl (by kernel_rfl) rfl fun _ _ _=>zr.up rfl
      rotate_left
      ·rintro w ⟨s1,s2,s3,s4⟩;go_simp;try with_reducible rfl
      (try simp only[Act.put,pA,pB,pC])
      refine tg 20 ?_ hHeld ?_ ?_ rfl (by kernel_rfl) rfl fun _ _ _=>zr.up rfl
      rotate_left
      ·rintro w ⟨s1,s2,s3,s4⟩;go_simp;try with_reducible rfl
      (try simp only[Act.put,pA,pB,pC])
      refine tg 21 ?_ hHeld ?_ ?_ rfl (by kernel_rfl) rfl fun _ _ _=>zr.up rfl
      rotate_left
      ·rintro w ⟨s1,s2,s3,s4⟩;go_simp;try with_reducible rfl
      (try simp only[Act.put,pA,pB,pC])
      refine rdy 22 (fun K hK=>?_) rfl (by kernel_rfl)
      go_simp
      refine(xu _).mono ?_;rintro e wz ⟨rfl,rfl⟩;refine hK.out _ _ (hHeld) (fun hHeld=>?_)
      clear hK K
      (try simp only[Act.put,pA,pB,pC])
      refine wpAnyH_done (by kernel_rfl) ?_ _
      clear hHeld;go_wp2
      go_roundw
      case rel=>exact⟨j+1,T2,t10,Lx.set j z,by omega,by go_num,HF11d.out,HN11.out,HLX2.out,by have hp:=HP10.out;rw[if_pos ⟨z0,z1⟩] at hp;exact hp⟩
      case measure=>simp[intOf];omega
     ·have HF11d:=za (HF11.out.grow (zf (zd _)))
      have hS0:(fun w':World=>w'.cell? ⟨W.heap.size,0,none⟩=some (.pointer (some ⟨tb,0,none⟩))∧w'.cell? ⟨tb,3,none⟩=some (.slice (some ⟨T2.lb,0,none⟩) N N)∧w'.cell? ⟨T2.lb,j,none⟩=some (.int .i64 z)∧w'.cell? ⟨tb,1,none⟩=some (.int .i64 o)) _:=⟨HF11d.out.c2,HF11d.out.k3 HN11.out HLX2.out,(HF11d.out.life HN11.out (j:=j) (by rw[HLX2.out];exact HJ.out)).trans (by rw[HGD.out]),HF11d.out.k1 HN11.out⟩
      dsimp only at hS0;refine wp_region_held_drew (S:=fun w':World=>w'.cell? ⟨W.heap.size,0,none⟩=some (.pointer (some ⟨tb,0,none⟩))∧w'.cell? ⟨tb,3,none⟩=some (.slice (some ⟨T2.lb,0,none⟩) N N)∧w'.cell? ⟨T2.lb,j,none⟩=some (.int .i64 z)∧w'.cell? ⟨tb,1,none⟩=some (.int .i64 o)) (by kernel_rfl) hS0 (fun hHeld=>?_)
      clear hS0;refine tg 0 ?_ hHeld ?_ ?_ rfl (by kernel_rfl) rfl fun _ _ _=>zr.up rfl
      rotate_left
      ·rintro w ⟨s1,s2,s3,s4⟩;go_simp;try with_reducible rfl
      (try simp only[Act.put,pA,pB,pC])
      refine tg 1 ?_ hHeld ?_ ?_ rfl (by kernel_rfl) rfl fun _ _ _=>zr.up rfl
      rotate_left
      ·rintro w ⟨s1,s2,s3,s4⟩;go_simp;try with_reducible rfl
      (try simp only[Act.put,pA,pB,pC])
      refine tg 2 ?_ hHeld ?_ ?_ rfl (by kernel_rfl) rfl fun _ _ _=>zr.up rfl
      rotate_left
      ·rintro w ⟨s1,s2,s3,s4⟩;go_simp;try with_reducible rfl
      (try simp only[Act.put,pA,pB,pC])
      refine tg 3 ?_ hHeld ?_ ?_ rfl (by kernel_rfl) rfl fun _ _ _=>zr.up rfl
      rotate_left
      ·rintro w ⟨s1,s2,s3,s4⟩;go_simp;try with_reducible rfl
      (try simp only[Act.put,pA,pB,pC])
      refine tg 4 ?_ hHeld ?_ ?_ rfl (by kernel_rfl) rfl fun _ _ _=>zr.up rfl
      rotate_left
      ·rintro w ⟨s1,s2,s3,s4⟩;go_simp;try with_reducible rfl
      (try simp only[Act.put,pA,pB,pC])
      refine tg 5 ?_ hHeld ?_ ?_ rfl (by kernel_rfl) rfl fun _ _ _=>zr.up rfl
      rotate_left
      ·rintro w ⟨s1,s2,s3,s4⟩;go_simp;try with_reducible rfl
      (try simp only[Act.put,pA,pB,pC])
      refine tg 6 ?_ hHeld ?_ ?_ rfl (by kernel_rfl) rfl fun _ _ _=>zr.up rfl
      rotate_left
      ·rintro w ⟨s1,s2,s3,s4⟩;go_simp;try with_reducible rfl
      (try simp only[Act.put,pA,pB,pC])
      refine tg 7 ?_ hHeld ?_ ?_ rfl (by kernel_rfl) rfl fun _ _ _=>zr.up rfl
      rotate_left
      ·rintro w ⟨s1,s2,s3,s4⟩;go_simp;try with_reducible rfl
      (try simp only[Act.put,pA,pB,pC])
      refine tg 8 ?_ hHeld ?_ ?_ rfl (by kernel_rfl) rfl fun _ _ _=>zr.up rfl
      rotate_left
      ·rintro w ⟨s1,s2,s3,s4⟩;go_simp;try with_reducible rfl
      (try simp only[Act.put,pA,pB,pC])
      refine tg 9 ?_ hHeld ?_ ?_ rfl (by kernel_rfl) rfl fun _ _ _=>zr.up rfl
      rotate_left
      ·rintro w ⟨s1,s2,s3,s4⟩;go_simp;try with_reducible rfl
      (try simp only[Act.put,pA,pB,pC])
      refine tg 10 ?_ hHeld ?_ ?_ rfl (by kernel_rfl) rfl fun _ _ _=>zr.up rfl
      rotate_left
      ·rintro w ⟨s1,s2,s3,s4⟩;go_simp;try with_reducible rfl
      (try simp only[Act.put,pA,pB,pC])
      refine tg 11 ?_ hHeld ?_ ?_ rfl (by kernel_rfl) rfl fun _ _ _=>zr.up rfl
      rotate_left
      ·rintro w ⟨s1,s2,s3,s4⟩;go_simp;try with_reducible rfl
      (try simp only[Act.put,pA,pB,pC])
      refine tg 12 ?_ hHeld ?_ ?_ rfl (by kernel_rfl) rfl fun _ _ _=>zr.up rfl
      rotate_left
      ·rintro w ⟨s1,s2,s3,s4⟩;go_simp;try with_reducible rfl
      (try simp only[Act.put,pA,pB,pC])
      refine tg 13 ?_ hHeld ?_ ?_ rfl (by kernel_rfl) rfl fun _ _ _=>zr.up rfl
      rotate_left
      ·rintro w ⟨s1,s2,s3,s4⟩;go_simp;try with_reducible rfl
      (try simp only[Act.put,pA,pB,pC])
      refine tg 14 ?_ hHeld ?_ ?_ rfl (by kernel_rfl) rfl fun _ _ _=>zr.up rfl
      rotate_left
      ·rintro w ⟨s1,s2,s3,s4⟩;go_simp;try with_reducible rfl
      (try simp only[Act.put,pA,pB,pC])
      refine tg 15 ?_ hHeld ?_ ?_ rfl (by kernel_rfl) rfl fun _ _ _=>zr.up rfl
      rotate_left
      ·rintro w ⟨s1,s2,s3,s4⟩;go_simp;try with_reducible rfl
      (try simp only[Act.put,pA,pB,pC])
      refine tg 16 ?_ hHeld ?_ ?_ rfl (by kernel_rfl) rfl fun _ _ _=>zr.up rfl
      rotate_left
      ·rintro w ⟨s1,s2,s3,s4⟩;go_simp;try with_reducible rfl
      (try simp only[Act.put,pA,pB,pC])
      refine tg 17 ?_ hHeld ?_ ?_ rfl (by kernel_rfl) rfl fun _ _ _=>zr.up rfl
      rotate_left
      ·rintro w ⟨s1,s2,s3,s4⟩;go_simp;try with_reducible rfl
      (try simp only[Act.put,pA,pB,pC])
      refine tg 18 ?_ hHeld ?_ ?_ rfl (by kernel_rfl) rfl fun _ _ _=>zr.up rfl
      rotate_left
      ·rintro w ⟨s1,s2,s3,s4⟩;go_simp;try with_reducible rfl
      (try simp only[Act.put,pA,pB,pC])
      refine tg 19 ?_ hHeld ?_ ?_ rfl (by kernel_rfl) rfl fun _ _ _=>zr.up rfl
      rotate_left
      ·rintro w ⟨s1,s2,s3,s4⟩;go_simp;try with_reducible rfl
      (try simp only[Act.put,pA,pB,pC])
      refine tg 20 ?_ hHeld ?_ ?_ rfl (by kernel_rfl) rfl fun _ _ _=>zr.up rfl
      rotate_left
      ·rintro w ⟨s1,s2,s3,s4⟩;go_simp;try with_reducible rfl
      (try simp only[Act.put,pA,pB,pC])
      refine tg 21 ?_ hHeld ?_ ?_ rfl (by kernel_rfl) rfl fun _ _ _=>zr.up rfl
      rotate_left
      ·rintro w ⟨s1,s2,s3,s4⟩;go_simp;try with_reducible rfl
      (try simp only[Act.put,pA,pB,pC])
      refine rdy 22 (fun K hK=>?_) rfl (by kernel_rfl)
      go_simp
      refine(yt _).mono ?_;rintro e wz ⟨rfl,rfl⟩
      exact zr.bad HF11d.out.fb rfl rfl (yk (by have hp:=HP10.out;rw[if_neg (by omega)] at hp;exact hp))
    ·have HF11d:=za (HF11.out.grow (zf (zd _)))
     have hS0:(fun w':World=>w'.cell? ⟨W.heap.size,0,none⟩=some (.pointer (some ⟨tb,0,none⟩))∧w'.cell? ⟨tb,3,none⟩=some (.slice (some ⟨T2.lb,0,none⟩) N N)∧w'.cell? ⟨T2.lb,j,none⟩=some (.int .i64 z)∧w'.cell? ⟨tb,1,none⟩=some (.int .i64 o)) _:=⟨HF11d.out.c2,HF11d.out.k3 HN11.out HLX2.out,(HF11d.out.life HN11.out (j:=j) (by rw[HLX2.out];exact HJ.out)).trans (by rw[HGD.out]),HF11d.out.k1 HN11.out⟩
     dsimp only at hS0;refine wp_region_held_drew (S:=fun w':World=>w'.cell? ⟨W.heap.size,0,none⟩=some (.pointer (some ⟨tb,0,none⟩))∧w'.cell? ⟨tb,3,none⟩=some (.slice (some ⟨T2.lb,0,none⟩) N N)∧w'.cell? ⟨T2.lb,j,none⟩=some (.int .i64 z)∧w'.cell? ⟨tb,1,none⟩=some (.int .i64 o)) (by kernel_rfl) hS0 (fun hHeld=>?_)
     clear hS0;refine tg 0 ?_ hHeld ?_ ?_ rfl (by kernel_rfl) rfl fun _ _ _=>zr.up rfl
     rotate_left
     ·rintro w ⟨s1,s2,s3,s4⟩;go_simp;try with_reducible rfl
     (try simp only[Act.put,pA,pB,pC])
     refine tg 1 ?_ hHeld ?_ ?_ rfl (by kernel_rfl) rfl fun _ _ _=>zr.up rfl
     rotate_left
     ·rintro w ⟨s1,s2,s3,s4⟩;go_simp;try with_reducible rfl
     (try simp only[Act.put,pA,pB,pC])
     refine tg 2 ?_ hHeld ?_ ?_ rfl (by kernel_rfl) rfl fun _ _ _=>zr.up rfl
     rotate_left
     ·rintro w ⟨s1,s2,s3,s4⟩;go_simp;try with_reducible rfl
     (try simp only[Act.put,pA,pB,pC])
     refine tg 3 ?_ hHeld ?_ ?_ rfl (by kernel_rfl) rfl fun _ _ _=>zr.up rfl
     rotate_left
     ·rintro w ⟨s1,s2,s3,s4⟩;go_simp;try with_reducible rfl
     (try simp only[Act.put,pA,pB,pC])
     refine tg 4 ?_ hHeld ?_ ?_ rfl (by kernel_rfl) rfl fun _ _ _=>zr.up rfl
     rotate_left
     ·rintro w ⟨s1,s2,s3,s4⟩;go_simp;try with_reducible rfl
     (try simp only[Act.put,pA,pB,pC])
     refine tg 5 ?_ hHeld ?_ ?_ rfl (by kernel_rfl) rfl fun _ _ _=>zr.up rfl
     rotate_left
     ·rintro w ⟨s1,s2,s3,s4⟩;go_simp;try with_reducible rfl
     (try simp only[Act.put,pA,pB,pC])
     refine tg 6 ?_ hHeld ?_ ?_ rfl (by kernel_rfl) rfl fun _ _ _=>zr.up rfl
     rotate_left
     ·rintro w ⟨s1,s2,s3,s4⟩;go_simp;try with_reducible rfl
     (try simp only[Act.put,pA,pB,pC])
     refine tg 7 ?_ hHeld ?_ ?_ rfl (by kernel_rfl) rfl fun _ _ _=>zr.up rfl
     rotate_left
     ·rintro w ⟨s1,s2,s3,s4⟩;go_simp;try with_reducible rfl
     (try simp only[Act.put,pA,pB,pC])
     refine tg 8 ?_ hHeld ?_ ?_ rfl (by kernel_rfl) rfl fun _ _ _=>zr.up rfl
     rotate_left
     ·rintro w ⟨s1,s2,s3,s4⟩;go_simp;try with_reducible rfl
     (try simp only[Act.put,pA,pB,pC])
     refine tgn 9 hHeld ?_ rfl (by kernel_rfl) rfl fun _ _ _=>zr.up rfl
     (try simp only[Act.put,pA,pB,pC])
     refine tgn 10 hHeld ?_ rfl (by kernel_rfl) rfl fun _ _ _=>zr.up rfl
     (try simp only[Act.put,pA,pB,pC])
     refine tgn 11 hHeld ?_ rfl (by kernel_rfl) rfl fun _ _ _=>zr.up rfl
     (try simp only[Act.put,pA,pB,pC])
     refine tgn 12 hHeld ?_ rfl (by kernel_rfl) rfl fun _ _ _=>zr.up rfl
     (try simp only[Act.put,pA,pB,pC])
     refine tgn 13 hHeld ?_ rfl (by kernel_rfl) rfl fun _ _ _=>zr.up rfl
     (try simp only[Act.put,pA,pB,pC])
     refine tgn 14 hHeld ?_ rfl (by kernel_rfl) rfl fun _ _ _=>zr.up rfl
     (try simp only[Act.put,pA,pB,pC])
     refine tgn 15 hHeld ?_ rfl (by kernel_rfl) rfl fun _ _ _=>zr.up rfl
     (try simp only[Act.put,pA,pB,pC])
     refine tgn 16 hHeld ?_ rfl (by kernel_rfl) rfl fun _ _ _=>zr.up rfl
     (try simp only[Act.put,pA,pB,pC])
     refine tgn 17 hHeld ?_ rfl (by kernel_rfl) rfl fun _ _ _=>zr.up rfl
     (try simp only[Act.put,pA,pB,pC])
     refine tgn 18 hHeld ?_ rfl (by kernel_rfl) rfl fun _ _ _=>zr.up rfl
     (try simp only[Act.put,pA,pB,pC])
     refine tgn 19 hHeld ?_ rfl (by kernel_rfl) rfl fun _ _ _=>zr.up rfl
     (try simp only[Act.put,pA,pB,pC])
     refine tgn 20 hHeld ?_ rfl (by kernel_rfl) rfl fun _ _ _=>zr.up rfl
     (try simp only[Act.put,pA,pB,pC])
     refine tg 21 ?_ hHeld ?_ ?_ rfl (by kernel_rfl) rfl fun _ _ _=>zr.up rfl
     rotate_left
     ·rintro w ⟨s1,s2,s3,s4⟩;go_simp;try with_reducible rfl
     (try simp only[Act.put,pA,pB,pC])
     refine rdy 22 (fun K hK=>?_) rfl (by kernel_rfl)
     go_simp
     refine(yt _).mono ?_;rintro e wz ⟨rfl,rfl⟩
     exact zr.bad HF11d.out.fb rfl rfl (yk (by have hp:=HP10.out;rw[if_neg (by omega)] at hp;exact hp))
   ·obtain rfl:j=N:=by omega
    have HPE:=za (hp.trans fL_end);clear hf hn hl hp;go_wp2
    go_meet
    exact⟨T,tx,Lx,HF8.out,HN8.out,HPE.out⟩
 case rest=>
  clear HF7 HN7 HP7;obtain⟨T,tx,Lx,hf,hn,hp⟩:=hcut;have HF12:=za hf;have HN12:=za hn;have HP12:Hid (RES=(rd 4 tx).bind fun c=>fC N x2 o x Lx c.1 [] c.2):=(show _=_ from hp)
  clear hf hn hp;generalize wc=w12 at *
  go_upto_block 2 with (first
   | (go_at_call 57;refine(HF12.out.num 4 (by omega)).mono ?_;rintro e w13 (⟨x13,t13,hr,rfl,hf,ht13⟩|⟨hr,rfl,hf⟩) <;> first|(have HX13:=za hr;have HF13:=za hf;have hp:=HP12.out;rw[hr,Option.bind_some] at hp;dsimp only at hp;have HP13:=za hp;(try dsimp only);clear hp hf;have hx13:x13<256 ^ 4:=za0 HF12.out.bl hr;rw[Ub (by omega)];clear hr)|(simp only[xh];have hp:=HP12.out;rw[hr] at hp;exact zr.bad hf rfl rfl (yk hp))))
  have hc13:(x13:Int)≤4294967296:=by omega
  clear hx13 HX13 ht13 HF12 HP12
  go_cut [104] from 105 to 122 (fun _ wx=>∃(T:Tab) (tx:List Int) (m:List (Int × yz)),FS W wx tb T tx∧T.norm=mkN x2 o x Lx m [] [] [] []∧RES=fV0 N x2 o x Lx m tx)
  case first=>
   go_wp2
   go_loopw [104] (fun s wr=>∃(j:Nat) (T:Tab) (tx:List Int) (m:List (Int × yz)),j≤x13∧s = .int .i64 j∧FS W wr tb T tx∧T.norm=mkN x2 o x Lx m [] [] [] []∧RES=fC N x2 o x Lx (x13-j) m tx) (fun s _=>x13-(intOf s).toNat)
   case atStart=>exact⟨0,T,t13,[],Nat.zero_le _,rfl,HF13.out,HN12.out,HP13.out⟩
   case round=>
    clear HF13 HN12 HP13;obtain⟨j,T,tx,m,hj,rfl,hf,hn,hp⟩:=hrel;have HFs:=za hf;have HNs:=za hn
    by_cases hlt:j<x13
    ·have HJ:=za hlt
     have HPs:=za (hp.trans (fC_step hlt));clear hf hn hp
     go_upto_region 16 with (first
      | (go_at_call 57;refine(HFs.out.num 2 (by omega)).mono ?_;rintro e w15 (⟨x15,t15,hr,rfl,hf,ht15⟩|⟨hr,rfl,hf⟩) <;> first|(have HX15:=za hr;have HF15:=za hf;have hp:=HPs.out;rw[hr,Option.bind_some] at hp;dsimp only at hp;have HP15:=za hp;(try dsimp only);clear hp hf;have hx15:x15<256 ^ 2:=za0 HFs.out.bl hr;rw[Ub (by omega)];clear hr)|(simp only[xh];have hp:=HPs.out;rw[hr] at hp;exact zr.bad hf rfl rfl (yk hp))))
     have HF15d:=za (HF15.out.grow (zf (zd _)));have hS0:(fun w':World=>w'.cell? ⟨W.heap.size,0,none⟩=some (.pointer (some ⟨tb,0,none⟩))∧w'.cell? ⟨tb,4,none⟩=some (.map (some T.cb))) _:=⟨HF15d.out.c2,HF15d.out.rep.c4⟩
     dsimp only at hS0;refine wp_region_held_drew (S:=fun w':World=>w'.cell? ⟨W.heap.size,0,none⟩=some (.pointer (some ⟨tb,0,none⟩))∧w'.cell? ⟨tb,4,none⟩=some (.map (some T.cb))) (by kernel_rfl) hS0 (fun hHeld=>?_)
     clear hS0;refine tg 0 ?_ hHeld ?_ ?_ rfl (by kernel_rfl) rfl fun _ _ _=>zr.up rfl
     rotate_left
     ·rintro w ⟨s1,s2⟩;go_simp;try with_reducible rfl
     (try simp only[Act.put,pA,pB,pC])
     refine tg 1 ?_ hHeld ?_ ?_ rfl (by kernel_rfl) rfl fun _ _ _=>zr.up rfl
     rotate_left
     ·rintro w ⟨s1,s2⟩;go_simp;try with_reducible rfl
     (try simp only[Act.put,pA,pB,pC])
     refine tg 2 ?_ hHeld ?_ ?_ rfl (by kernel_rfl) rfl fun _ _ _=>zr.up rfl
     rotate_left
     ·rintro w ⟨s1,s2⟩;go_simp;try with_reducible rfl
     (try simp only[Act.put,pA,pB,pC])
     refine tg 3 ?_ hHeld ?_ ?_ rfl (by kernel_rfl) rfl fun _ _ _=>zr.up rfl
     rotate_left
     ·rintro w ⟨s1,s2⟩;go_simp;try with_reducible rfl
     (try simp only[Act.put,pA,pB,pC])
     refine tg 4 ?_ hHeld ?_ ?_ rfl (by kernel_rfl) rfl fun _ _ _=>zr.up rfl
     rotate_left
     ·rintro w ⟨s1,s2⟩;go_simp;try with_reducible rfl
     (try simp only[Act.put,pA,pB,pC])
     refine tg 5 ?_ hHeld ?_ ?_ rfl (by kernel_rfl) rfl fun _ _ _=>zr.up rfl
     rotate_left
     ·rintro w ⟨s1,s2⟩;go_simp;try with_reducible rfl
     (try simp only[Act.put,pA,pB,pC])
     refine tg 7 ?_ hHeld ?_ ?_ rfl (by kernel_rfl) rfl fun _ _ _=>zr.up rfl
     rotate_left
     ·rintro w ⟨s1,s2⟩;go_simp;try with_reducible rfl
     (try simp only[Act.put,pA,pB,pC])
     refine tg 9 ?_ hHeld ?_ ?_ rfl (by kernel_rfl) rfl fun _ _ _=>zr.up rfl
     rotate_left
     ·rintro w ⟨s1,s2⟩;go_simp;try with_reducible rfl
     (try simp only[Act.put,pA,pB,pC])
     refine tg 11 ?_ hHeld ?_ ?_ rfl (by kernel_rfl) rfl fun _ _ _=>zr.up rfl
     rotate_left
     ·rintro w ⟨s1,s2⟩;go_simp;try with_reducible rfl
     (try simp only[Act.put,pA,pB,pC])
     refine rdy 6 (fun K hK=>?_) rfl (by kernel_rfl)
     go_simp
     refine(HF15d.out.num 8 (by omega)).mono ?_
     rintro e w16 (⟨x16,t16,hr,rfl,hf,ht16⟩|⟨hr,rfl,hf⟩)
     rotate_left
     ·have hp:=HP15.out
      rw[hr] at hp
      exact zr.bad hf rfl rfl (yk hp)
     have HX16:=za hr;have HF16:=za hf;have hp:=HP15.out;rw[hr,Option.bind_some] at hp;dsimp only at hp;have HP16:=za hp
     (try dsimp only)
     clear hp hf;clear hr;refine hK.out _ _ (⟨HF16.out.c2,HF16.out.rep.c4⟩) (fun hHeld=>?_)
     clear hK K
     (try simp only[Act.put,pA,pB,pC])
     refine rdy 8 (fun K hK=>?_) rfl (by kernel_rfl)
     go_simp
     refine(HF16.out.num 8 (by omega)).mono ?_
     rintro e w17 (⟨x17,t17,hr,rfl,hf,ht17⟩|⟨hr,rfl,hf⟩)
     rotate_left
     ·have hp:=HP16.out
      rw[hr] at hp
      exact zr.bad hf rfl rfl (yk hp)
     have HX17:=za hr;have HF17:=za hf;have hp:=HP16.out;rw[hr,Option.bind_some] at hp;dsimp only at hp;have HP17:=za hp
     (try dsimp only)
     clear hp hf;clear hr;refine hK.out _ _ (⟨HF17.out.c2,HF17.out.rep.c4⟩) (fun hHeld=>?_)
     clear hK K
     (try simp only[Act.put,pA,pB,pC])
     refine rdy 10 (fun K hK=>?_) rfl (by kernel_rfl)
     go_simp
     refine(HF17.out.bit).mono ?_;rintro e w18 (⟨x18,t18,hr,rfl,hf,ht18⟩|⟨hr,rfl,hf⟩)
     rotate_left
     ·have hp:=HP17.out
      rw[hr] at hp
      exact zr.bad hf rfl rfl (yk hp)
     have HX18:=za hr;have HF18:=za hf;have hp:=HP17.out;rw[hr,Option.bind_some] at hp;dsimp only at hp;have HP18:=za hp
     (try dsimp only)
     clear hp hf;clear hr;refine hK.out _ _ (⟨HF18.out.c2,HF18.out.rep.c4⟩) (fun hHeld=>?_)
     clear hK K
     (try simp only[Act.put,pA,pB,pC])
     refine rdy 12 (fun K hK=>?_) rfl (by kernel_rfl)
     go_simp
     refine(HF18.out.num 2 (by omega)).mono ?_
     rintro e w19 (⟨x19,t19,hr,rfl,hf,ht19⟩|⟨hr,rfl,hf⟩)
     rotate_left
     ·have hp:=HP18.out
      rw[hr] at hp
      exact zr.bad hf rfl rfl (yk hp)
     have HX19:=za hr;have HF19:=za hf;have hp:=HP18.out;rw[hr,Option.bind_some] at hp;dsimp only at hp;have HP19:=za hp
     (try dsimp only)
     clear hp hf;have hx19:x19<256 ^ 2:=za0 HF18.out.bl hr;rw[Ub (x:=x19) (by omega)]
     clear hr;refine hK.out _ _ (⟨HF19.out.c2,HF19.out.rep.c4⟩) (fun hHeld=>?_)
     clear hK K
     (try simp only[Act.put,pA,pB,pC])
     generalize s64 x16=rq at *;generalize s64 x17=vr at *;refine tg 13 ?_ hHeld ?_ ?_ rfl (by kernel_rfl) rfl fun _ _ _=>zr.up rfl
     rotate_left
     ·rintro w ⟨s1,s2⟩;go_simp;try with_reducible rfl
     (try simp only[Act.put,pA,pB,pC])
     refine rdy 14 (fun K hK=>?_) rfl (by kernel_rfl)
     refine zat (ek:=Value.int .i64) (ev:=qt) rfl _ _ _ 117 rfl Qn Tryz.underlying117 T.cb m rfl (HF19.out.mc HNs.out) (x15:Int) ⟨rq,vr,x18,(x19:Int)⟩ rfl rfl ?_;intro w20 hm hg;obtain⟨T2,hf,hn,hcb⟩:=HF19.out.setCall HNs.out hm hg;have HF20:=za hf;have HN20:=za hn;have HCB:=za hcb;clear hf hn hcb hm hg;refine hK.out _ _ (⟨HF20.out.c2,by rw[←HCB.out];exact HF20.out.rep.c4⟩) (fun hHeld=>?_)
     clear hK K
     (try simp only[Act.put,pA,pB,pC])
     refine wpAnyH_done (by kernel_rfl) ?_ _
     clear hHeld;go_wp2
     go_roundw
     case rel=>exact⟨j+1,T2,t19,_,by omega,by go_num,HF20.out,HN20.out,HP19.out⟩
     case measure=>simp[intOf];omega
    ·obtain rfl:j=x13:=by omega
     have HPE:=za (hp.trans fC_end);clear hf hn hp;go_wp2
     go_meet
     exact⟨T,tx,m,HFs.out,HNs.out,HPE.out⟩
  case rest=>
   clear HF13 HN12 HP13 hc13;obtain⟨T,tx,ca,hf,hn,hp⟩:=hcut;have HF40:=za hf;have HN40:=za hn;have HP40:Hid (RES=(rd 4 tx).bind fun c=>fV N x2 o x Lx ca c.1 [] c.2):=(show _=_ from hp)
   clear hf hn hp;generalize wc=w40 at *
   go_upto_block 4 with (first
    | (go_at_call 57;refine(HF40.out.num 4 (by omega)).mono ?_;rintro e w41 (⟨x41,t41,hr,rfl,hf,ht41⟩|⟨hr,rfl,hf⟩) <;> first|(have HX41:=za hr;have HF41:=za hf;have hp:=HP40.out;rw[hr,Option.bind_some] at hp;dsimp only at hp;have HP41:=za hp;(try dsimp only);clear hp hf;have hx41:x41<256 ^ 4:=za0 HF40.out.bl hr;rw[Ub (by omega)];clear hr)|(simp only[xh];have hp:=HP40.out;rw[hr] at hp;exact zr.bad hf rfl rfl (yk hp))))
   have hc41:(x41:Int)≤4294967296:=by omega
   clear hx41 HX41 ht41 HF40 HP40
   go_cut [125] from 126 to 153 (fun _ wx=>∃(T:Tab) (tx:List Int) (m:List (ByteArray × Val)),FS W wx tb T tx∧T.norm=mkN x2 o x Lx ca m [] [] []∧RES=fP0 N x2 o x Lx ca m tx)
   case first=>
    go_wp2
    go_loopw [125] (fun s wr=>∃(j:Nat) (T:Tab) (tx:List Int) (m:List (ByteArray × Val)),j≤x41∧s = .int .i64 j∧FS W wr tb T tx∧T.norm=mkN x2 o x Lx ca m [] [] []∧RES=fV N x2 o x Lx ca (x41-j) m tx) (fun s _=>x41-(intOf s).toNat)
    case atStart=>exact⟨0,T,t41,[],Nat.zero_le _,rfl,HF41.out,HN40.out,HP41.out⟩
    case round=>
     clear HF41 HN40 HP41;obtain⟨j,T,tx,m,hj,rfl,hf,hn,hp⟩:=hrel;have HFs:=za hf;have HNs:=za hn
     by_cases hlt:j<x41
     ·have HJ:=za hlt
      have HPs:=za (hp.trans (fV_step hlt));clear hf hn hp
      go_upto_region 21 with (first
       | (go_at_call 98;refine(HFs.out.id).mono ?_;rintro e w21 (⟨x21,t21,hr,rfl,hf,ht21⟩|⟨hr,rfl,hf⟩) <;> first|(have HX21:=za hr;have HF21:=za hf;have hp:=HPs.out;rw[hr,Option.bind_some] at hp;dsimp only at hp;have HP21:=za hp;(try dsimp only);clear hp hf;obtain⟨ik,iv⟩:=x21;simp only[zx];clear hr)|(simp only[xh];have hp:=HPs.out;rw[hr] at hp;exact zr.bad hf rfl rfl (yk hp))))
      have hpx:=HP21.out
      (try dsimp only at hpx)
      have HP21b:=za hpx;clear hpx;have hbx:=heap_alloc_new w21 (.cells #[.string ik,.int .i64 iv] 54);have hgx:w21.grownBy (w21.alloc (.cells #[.string ik,.int .i64 iv] 54)) none:=zc w21 _ none;have HFx:=za (HF21.out.grow hgx);have hbr:=HF21.out.rlt;generalize w21.alloc (.cells #[.string ik,.int .i64 iv] 54)=wx at *;have hbn:w21.heap.size≠W.heap.size+1+1:=by omega
      have hlb:=HF21.out.rep.lt;have hvb:T.vb≠w21.heap.size:=fun e=>Nat.lt_irrefl _ (Nat.lt_of_lt_of_eq (hlb T.vb (by simp[Tab.blocks])) e.symm)
      have hpb:T.pb≠w21.heap.size:=fun e=>Nat.lt_irrefl _ (Nat.lt_of_lt_of_eq (hlb T.pb (by simp[Tab.blocks])) e.symm)
      have HVB:Hid (some w21.heap.size≠some T.vb∧some w21.heap.size≠some T.pb):=(show _∧_ from ⟨fun e=>hvb (Option.some.inj e).symm,fun e=>hpb (Option.some.inj e).symm⟩)
      have HBN:=za hbn;have HBX:=za hbx;clear hbx hgx hbr hbn hlb hvb hpb HF21;generalize w21.heap.size=bx at *
      by_cases z0:1≤iv
      case neg=>
       have HFxd:=za (HFx.out.grow (zf (zd _)));have hS0:(fun w':World=>w'.cell? ⟨W.heap.size,0,none⟩=some (.pointer (some ⟨tb,0,none⟩))∧w'.cell? ⟨tb,2,none⟩=some (.int .i64 x)∧w'.cell? ⟨bx,1,none⟩=some (.int .i64 iv)) _:=⟨HFxd.out.c2,HFxd.out.k2 HNs.out,(Jc (xt HBX.out (zf (zd _)) (by simp))).2⟩
       dsimp only at hS0;refine wp_region_held_drew (S:=fun w':World=>w'.cell? ⟨W.heap.size,0,none⟩=some (.pointer (some ⟨tb,0,none⟩))∧w'.cell? ⟨tb,2,none⟩=some (.int .i64 x)∧w'.cell? ⟨bx,1,none⟩=some (.int .i64 iv)) (by kernel_rfl) hS0 (fun hHeld=>?_)
       clear hS0;refine tg 0 ?_ hHeld ?_ ?_ rfl (by kernel_rfl) rfl fun _ _ _=>zr.up rfl
       rotate_left
       ·rintro w ⟨s1,s2,s3⟩;go_simp;try with_reducible rfl
       (try simp only[Act.put,pA,pB,pC])
       refine tg 1 ?_ hHeld ?_ ?_ rfl (by kernel_rfl) rfl fun _ _ _=>zr.up rfl
       rotate_left
       ·rintro w ⟨s1,s2,s3⟩;go_simp;try with_reducible rfl
       (try simp only[Act.put,pA,pB,pC])
       refine tg 2 ?_ hHeld ?_ ?_ rfl (by kernel_rfl) rfl fun _ _ _=>zr.up rfl
       rotate_left
       ·rintro w ⟨s1,s2,s3⟩;go_simp;try with_reducible rfl
       (try simp only[Act.put,pA,pB,pC])
       refine tg 3 ?_ hHeld ?_ ?_ rfl (by kernel_rfl) rfl fun _ _ _=>zr.up rfl
       rotate_left
       ·rintro w ⟨s1,s2,s3⟩;go_simp;try with_reducible rfl
       (try simp only[Act.put,pA,pB,pC])
       refine tgn 4 hHeld ?_ rfl (by kernel_rfl) rfl fun _ _ _=>zr.up rfl
       (try simp only[Act.put,pA,pB,pC])
       refine tgn 5 hHeld ?_ rfl (by kernel_rfl) rfl fun _ _ _=>zr.up rfl
       (try simp only[Act.put,pA,pB,pC])
       refine tgn 6 hHeld ?_ rfl (by kernel_rfl) rfl fun _ _ _=>zr.up rfl
       (try simp only[Act.put,pA,pB,pC])
       refine tgn 7 hHeld ?_ rfl (by kernel_rfl) rfl fun _ _ _=>zr.up rfl
       (try simp only[Act.put,pA,pB,pC])
       refine tgn 8 hHeld ?_ rfl (by kernel_rfl) rfl fun _ _ _=>zr.up rfl
       (try simp only[Act.put,pA,pB,pC])
       refine tgn 9 hHeld ?_ rfl (by kernel_rfl) rfl fun _ _ _=>zr.up rfl
       (try simp only[Act.put,pA,pB,pC])
       refine tgn 10 hHeld ?_ rfl (by kernel_rfl) rfl fun _ _ _=>zr.up rfl
       (try simp only[Act.put,pA,pB,pC])
       refine tg 11 ?_ hHeld ?_ ?_ rfl (by kernel_rfl) rfl fun _ _ _=>zr.up rfl
       rotate_left
       ·rintro w ⟨s1,s2,s3⟩;go_simp;try with_reducible rfl
       (try simp only[Act.put,pA,pB,pC])
       refine rdy 12 (fun K hK=>?_) rfl (by kernel_rfl)
       go_simp
       refine(yt _).mono ?_;rintro e wz ⟨rfl,rfl⟩
       exact zr.bad HFxd.out.fb rfl rfl (yk (by have hp:=HP21b.out;rw[if_neg (by omega)] at hp;exact hp))
      by_cases z1:iv<x
      case neg=>
       have HFxd:=za (HFx.out.grow (zf (zd _)));have hS0:(fun w':World=>w'.cell? ⟨W.heap.size,0,none⟩=some (.pointer (some ⟨tb,0,none⟩))∧w'.cell? ⟨tb,2,none⟩=some (.int .i64 x)∧w'.cell? ⟨bx,1,none⟩=some (.int .i64 iv)) _:=⟨HFxd.out.c2,HFxd.out.k2 HNs.out,(Jc (xt HBX.out (zf (zd _)) (by simp))).2⟩
       dsimp only at hS0;refine wp_region_held_drew (S:=fun w':World=>w'.cell? ⟨W.heap.size,0,none⟩=some (.pointer (some ⟨tb,0,none⟩))∧w'.cell? ⟨tb,2,none⟩=some (.int .i64 x)∧w'.cell? ⟨bx,1,none⟩=some (.int .i64 iv)) (by kernel_rfl) hS0 (fun hHeld=>?_)
       clear hS0;refine tg 0 ?_ hHeld ?_ ?_ rfl (by kernel_rfl) rfl fun _ _ _=>zr.up rfl
       rotate_left
       ·rintro w ⟨s1,s2,s3⟩;go_simp;try with_reducible rfl
       (try simp only[Act.put,pA,pB,pC])
       refine tg 1 ?_ hHeld ?_ ?_ rfl (by kernel_rfl) rfl fun _ _ _=>zr.up rfl
       rotate_left
       ·rintro w ⟨s1,s2,s3⟩;go_simp;try with_reducible rfl
       (try simp only[Act.put,pA,pB,pC])
       refine tg 2 ?_ hHeld ?_ ?_ rfl (by kernel_rfl) rfl fun _ _ _=>zr.up rfl
       rotate_left
       ·rintro w ⟨s1,s2,s3⟩;go_simp;try with_reducible rfl
       (try simp only[Act.put,pA,pB,pC])
       refine tg 3 ?_ hHeld ?_ ?_ rfl (by kernel_rfl) rfl fun _ _ _=>zr.up rfl
       rotate_left
       ·rintro w ⟨s1,s2,s3⟩;go_simp;try with_reducible rfl
       (try simp only[Act.put,pA,pB,pC])
       refine tg 4 ?_ hHeld ?_ ?_ rfl (by kernel_rfl) rfl fun _ _ _=>zr.up rfl
       rotate_left
       ·rintro w ⟨s1,s2,s3⟩;go_simp;try with_reducible rfl
       (try simp only[Act.put,pA,pB,pC])
       refine tg 5 ?_ hHeld ?_ ?_ rfl (by kernel_rfl) rfl fun _ _ _=>zr.up rfl
       rotate_left
       ·rintro w ⟨s1,s2,s3⟩;go_simp;try with_reducible rfl
       (try simp only[Act.put,pA,pB,pC])
       refine tg 6 ?_ hHeld ?_ ?_ rfl (by kernel_rfl) rfl fun _ _ _=>zr.up rfl
       rotate_left
       ·rintro w ⟨s1,s2,s3⟩;go_simp;try with_reducible rfl
       (try simp only[Act.put,pA,pB,pC])
       refine tg 7 ?_ hHeld ?_ ?_ rfl (by kernel_rfl) rfl fun _ _ _=>zr.up rfl
       rotate_left
       ·rintro w ⟨s1,s2,s3⟩;go_simp;try with_reducible rfl
       (try simp only[Act.put,pA,pB,pC])
       refine tg 8 ?_ hHeld ?_ ?_ rfl (by kernel_rfl) rfl fun _ _ _=>zr.up rfl
       rotate_left
       ·rintro w ⟨s1,s2,s3⟩;go_simp;try with_reducible rfl
       (try simp only[Act.put,pA,pB,pC])
       refine tg 9 ?_ hHeld ?_ ?_ rfl (by kernel_rfl) rfl fun _ _ _=>zr.up rfl
       rotate_left
       ·rintro w ⟨s1,s2,s3⟩;go_simp;try with_reducible rfl
       (try simp only[Act.put,pA,pB,pC])
       refine tg 10 ?_ hHeld ?_ ?_ rfl (by kernel_rfl) rfl fun _ _ _=>zr.up rfl
       rotate_left
       ·rintro w ⟨s1,s2,s3⟩;go_simp;try with_reducible rfl
       (try simp only[Act.put,pA,pB,pC])
       refine tg 11 ?_ hHeld ?_ ?_ rfl (by kernel_rfl) rfl fun _ _ _=>zr.up rfl
       rotate_left
       ·rintro w ⟨s1,s2,s3⟩;go_simp;try with_reducible rfl
       (try simp only[Act.put,pA,pB,pC])
       refine rdy 12 (fun K hK=>?_) rfl (by kernel_rfl)
       go_simp
       refine(yt _).mono ?_;rintro e wz ⟨rfl,rfl⟩
       exact zr.bad HFxd.out.fb rfl rfl (yk (by have hp:=HP21b.out;rw[if_neg (by omega)] at hp;exact hp))
      have HFxd:=za (HFx.out.grow (zf (zd _)));have hS0:(fun w':World=>w'.cell? ⟨W.heap.size,0,none⟩=some (.pointer (some ⟨tb,0,none⟩))∧w'.cell? ⟨tb,2,none⟩=some (.int .i64 x)∧w'.cell? ⟨bx,1,none⟩=some (.int .i64 iv)) _:=⟨HFxd.out.c2,HFxd.out.k2 HNs.out,(Jc (xt HBX.out (zf (zd _)) (by simp))).2⟩
      dsimp only at hS0;refine wp_region_held_drew (S:=fun w':World=>w'.cell? ⟨W.heap.size,0,none⟩=some (.pointer (some ⟨tb,0,none⟩))∧w'.cell? ⟨tb,2,none⟩=some (.int .i64 x)∧w'.cell? ⟨bx,1,none⟩=some (.int .i64 iv)) (by kernel_rfl) hS0 (fun hHeld=>?_)
      clear hS0;refine tg 0 ?_ hHeld ?_ ?_ rfl (by kernel_rfl) rfl fun _ _ _=>zr.up rfl
      rotate_left
      ·rintro w ⟨s1,s2,s3⟩;go_simp;try with_reducible rfl
      (try simp only[Act.put,pA,pB,pC])
      refine tg 1 ?_ hHeld ?_ ?_ rfl (by kernel_rfl) rfl fun _ _ _=>zr.up rfl
      rotate_left
      ·rintro w ⟨s1,s2,s3⟩;go_simp;try with_reducible rfl
      (try simp only[Act.put,pA,pB,pC])
      refine tg 2 ?_ hHeld ?_ ?_ rfl (by kernel_rfl) rfl fun _ _ _=>zr.up rfl
      rotate_left
      ·rintro w ⟨s1,s2,s3⟩;go_simp;try with_reducible rfl
      (try simp only[Act.put,pA,pB,pC])
      refine tg 3 ?_ hHeld ?_ ?_ rfl (by kernel_rfl) rfl fun _ _ _=>zr.up rfl
      rotate_left
      ·rintro w ⟨s1,s2,s3⟩;go_simp;try with_reducible rfl
      (try simp only[Act.put,pA,pB,pC])
      refine tg 4 ?_ hHeld ?_ ?_ rfl (by kernel_rfl) rfl fun _ _ _=>zr.up rfl
      rotate_left
      ·rintro w ⟨s1,s2,s3⟩;go_simp;try with_reducible rfl
      (try simp only[Act.put,pA,pB,pC])
      refine tg 5 ?_ hHeld ?_ ?_ rfl (by kernel_rfl) rfl fun _ _ _=>zr.up rfl
      rotate_left
      ·rintro w ⟨s1,s2,s3⟩;go_simp;try with_reducible rfl
      (try simp only[Act.put,pA,pB,pC])
      refine tg 6 ?_ hHeld ?_ ?_ rfl (by kernel_rfl) rfl fun _ _ _=>zr.up rfl
      rotate_left
      ·rintro w ⟨s1,s2,s3⟩;go_simp;try with_reducible rfl
      (try simp only[Act.put,pA,pB,pC])
      refine tg 7 ?_ hHeld ?_ ?_ rfl (by kernel_rfl) rfl fun _ _ _=>zr.up rfl
      rotate_left
      ·rintro w ⟨s1,s2,s3⟩;go_simp;try with_reducible rfl
      (try simp only[Act.put,pA,pB,pC])
      refine tg 8 ?_ hHeld ?_ ?_ rfl (by kernel_rfl) rfl fun _ _ _=>zr.up rfl
      rotate_left
      ·rintro w ⟨s1,s2,s3⟩;go_simp;try with_reducible rfl
      (try simp only[Act.put,pA,pB,pC])
      refine tg 9 ?_ hHeld ?_ ?_ rfl (by kernel_rfl) rfl fun _ _ _=>zr.up rfl
      rotate_left
      ·rintro w ⟨s1,s2,s3⟩;go_simp;try with_reducible rfl
      (try simp only[Act.put,pA,pB,pC])
      refine tg 10 ?_ hHeld ?_ ?_ rfl (by kernel_rfl) rfl fun _ _ _=>zr.up rfl
      rotate_left
      ·rintro w ⟨s1,s2,s3⟩;go_simp;try with_reducible rfl
      (try simp only[Act.put,pA,pB,pC])
      refine tg 11 ?_ hHeld ?_ ?_ rfl (by kernel_rfl) rfl fun _ _ _=>zr.up rfl
      rotate_left
      ·rintro w ⟨s1,s2,s3⟩;go_simp;try with_reducible rfl
      (try simp only[Act.put,pA,pB,pC])
      refine rdy 12 (fun K hK=>?_) rfl (by kernel_rfl)
      go_simp
      refine(xu _).mono ?_;rintro e wz ⟨rfl,rfl⟩;refine hK.out _ _ (hHeld) (fun hHeld=>?_)
      clear hK K
      (try simp only[Act.put,pA,pB,pC])
      refine wpAnyH_done (by kernel_rfl) ?_ _
      clear hHeld
      go_upto_region 22 with fail
      have HBXd:=za (xt HBX.out (zf (zd wx)) (by simp))
      have hp:=HP21b.out;rw[if_pos ⟨z0,z1⟩] at hp;have HPy:=za hp;clear hp HBX HP21b HFx;generalize wx.drew=wy at *;have HFyd:=za (HFxd.out.grow (zf (zd _)));have hS0:(fun w':World=>w'.cell? ⟨W.heap.size,0,none⟩=some (.pointer (some ⟨tb,0,none⟩))∧w'.cell? ⟨tb,5,none⟩=some (.map (some T.vb))∧w'.cell? ⟨bx,0,none⟩=some (.string ik)∧w'.cell? ⟨bx,1,none⟩=some (.int .i64 iv)) _:=⟨HFyd.out.c2,HFyd.out.rep.c5,(Jc (xt HBXd.out (zf (zd _)) (by simp))).1,(Jc (xt HBXd.out (zf (zd _)) (by simp))).2⟩
      dsimp only at hS0;refine wp_region_held_drew (S:=fun w':World=>w'.cell? ⟨W.heap.size,0,none⟩=some (.pointer (some ⟨tb,0,none⟩))∧w'.cell? ⟨tb,5,none⟩=some (.map (some T.vb))∧w'.cell? ⟨bx,0,none⟩=some (.string ik)∧w'.cell? ⟨bx,1,none⟩=some (.int .i64 iv)) (by kernel_rfl) hS0 (fun hHeld=>?_)
      clear hS0;refine tg 0 ?_ hHeld ?_ ?_ rfl (by kernel_rfl) rfl fun _ _ _=>zr.up rfl
      rotate_left
      ·rintro w ⟨s1,s2,s3,s4⟩;go_simp;try with_reducible rfl
      (try simp only[Act.put,pA,pB,pC])
      refine tg 1 ?_ hHeld ?_ ?_ rfl (by kernel_rfl) rfl fun _ _ _=>zr.up rfl
      rotate_left
      ·rintro w ⟨s1,s2,s3,s4⟩;go_simp;try with_reducible rfl
      (try simp only[Act.put,pA,pB,pC])
      refine tg 2 ?_ hHeld ?_ ?_ rfl (by kernel_rfl) rfl fun _ _ _=>zr.up rfl
      rotate_left
      ·rintro w ⟨s1,s2,s3,s4⟩;go_simp;try with_reducible rfl
      (try simp only[Act.put,pA,pB,pC])
      refine tg 3 ?_ hHeld ?_ ?_ rfl (by kernel_rfl) rfl fun _ _ _=>zr.up rfl
      rotate_left
      ·rintro w ⟨s1,s2,s3,s4⟩;go_simp;try with_reducible rfl
      (try simp only[Act.put,pA,pB,pC])
      refine tg 4 ?_ hHeld ?_ ?_ rfl (by kernel_rfl) rfl fun _ _ _=>zr.up rfl
      rotate_left
      ·rintro w ⟨s1,s2,s3,s4⟩;go_simp;try with_reducible rfl
      (try simp only[Act.put,pA,pB,pC])
      refine tg 5 ?_ hHeld ?_ ?_ rfl (by kernel_rfl) rfl fun _ _ _=>zr.up rfl
      rotate_left
      ·rintro w ⟨s1,s2,s3,s4⟩;go_simp;try with_reducible rfl
      (try simp only[Act.put,pA,pB,pC])
      refine tg 6 ?_ hHeld ?_ ?_ rfl (by kernel_rfl) rfl fun _ _ _=>zr.up rfl
      rotate_left
      ·rintro w ⟨s1,s2,s3,s4⟩;go_simp;try with_reducible rfl
      (try simp only[Act.put,pA,pB,pC])
      refine tg 7 ?_ hHeld ?_ ?_ rfl (by kernel_rfl) rfl fun _ _ _=>zr.up rfl
      rotate_left
      ·rintro w ⟨s1,s2,s3,s4⟩;go_simp;try with_reducible rfl
      (try simp only[Act.put,pA,pB,pC])
      refine tg 8 ?_ hHeld ?_ ?_ rfl (by kernel_rfl) rfl fun _ _ _=>zr.up rfl
      rotate_left
      ·rintro w ⟨s1,s2,s3,s4⟩;go_simp;try with_reducible rfl
      (try simp only[Act.put,pA,pB,pC])
      refine rdy 9 (fun K hK=>?_) rfl (by kernel_rfl)
      go_simp
      refine(HFyd.out.bit).mono ?_;rintro e w22 (⟨x22,t22,hr,rfl,hf,ht22⟩|⟨hr,rfl,hf⟩)
      rotate_left
      ·have hp:=HPy.out
       rw[hr] at hp
       exact zr.bad hf rfl rfl (yk hp)
      have HX22:=za hr;have HF22:=za hf;have hp:=HPy.out;rw[hr,Option.bind_some] at hp;dsimp only at hp;have HP22:=za hp
      (try dsimp only)
      clear hp hf;clear hr;refine hK.out _ _ (⟨HF22.out.c2,HF22.out.rep.c5,(Jc (Zy (xt HBXd.out (zf (zd _)) (by simp)) ht22 HBN.out)).1,(Jc (Zy (xt HBXd.out (zf (zd _)) (by simp)) ht22 HBN.out)).2⟩) (fun hHeld=>?_)
      clear hK K
      (try simp only[Act.put,pA,pB,pC])
      refine tg 10 ?_ hHeld ?_ ?_ rfl (by kernel_rfl) rfl fun _ _ _=>zr.up rfl
      rotate_left
      ·rintro w ⟨s1,s2,s3,s4⟩;go_simp;try with_reducible rfl
      (try simp only[Act.put,pA,pB,pC])
      refine rdy 11 (fun K hK=>?_) rfl (by kernel_rfl)
      refine zat (ek:=Value.string) (ev:=Ya) rfl _ _ _ 118 rfl zma Tryz.underlying118 T.vb m rfl (HF22.out.mv HNs.out) ik ⟨iv,x22⟩ rfl rfl ?_;intro w23 hm hg;obtain⟨T2,hf,hn,hcb⟩:=HF22.out.setVal HNs.out hm hg;have HF23:=za hf;have HN23:=za hn;have HCB:=za hcb;have HB23:=za (xt (Zy (xt HBXd.out (zf (zd _)) (by simp)) ht22 HBN.out) hg HVB.out.1)
      clear hf hn hcb hm hg;refine hK.out _ _ (⟨HF23.out.c2,by rw[←HCB.out];exact HF23.out.rep.c5,(Jc HB23.out).1,(Jc HB23.out).2⟩) (fun hHeld=>?_)
      clear hK K
      (try simp only[Act.put,pA,pB,pC])
      refine wpAnyH_done (by kernel_rfl) ?_ _
      clear hHeld;go_wp2
      go_roundw
      case rel=>exact⟨j+1,T2,t22,_,by omega,by go_num,HF23.out,HN23.out,HP22.out⟩
      case measure=>simp[intOf];omega
     ·obtain rfl:j=x41:=by omega
      have HPE:=za (hp.trans fV_end);clear hf hn hp;go_wp2
      go_meet
      exact⟨T,tx,m,HFs.out,HNs.out,HPE.out⟩
   case rest=>
    clear HF41 HN40 HP41 hc41;obtain⟨T,tx,va,hf,hn,hp⟩:=hcut;have HF50:=za hf;have HN50:=za hn;have HP50:Hid (RES=(rd 4 tx).bind fun c=>fP N x2 o x Lx ca va c.1 [] c.2):=(show _=_ from hp)
    clear hf hn hp;generalize wc=w50 at *
    go_upto_block 6 with (first
     | (go_at_call 57;refine(HF50.out.num 4 (by omega)).mono ?_;rintro e w51 (⟨x51,t51,hr,rfl,hf,ht51⟩|⟨hr,rfl,hf⟩) <;> first|(have HX51:=za hr;have HF51:=za hf;have hp:=HP50.out;rw[hr,Option.bind_some] at hp;dsimp only at hp;have HP51:=za hp;(try dsimp only);clear hp hf;have hx51:x51<256 ^ 4:=za0 HF50.out.bl hr;rw[Ub (by omega)];clear hr)|(simp only[xh];have hp:=HP50.out;rw[hr] at hp;exact zr.bad hf rfl rfl (yk hp))))
    have hc51:(x51:Int)≤4294967296:=by omega
    clear hx51 HX51 ht51 HF50 HP50
    go_cut [156] from 157 to 183 (fun _ wx=>∃(T:Tab) (tx:List Int) (m:List (ID × xd)),FS W wx tb T tx∧T.norm=mkN x2 o x Lx ca va m [] []∧RES=fH N x2 o x Lx ca va m tx)
    case first=>
     go_wp2
     go_loopw [156] (fun s wr=>∃(j:Nat) (T:Tab) (tx:List Int) (m:List (ID × xd)),j≤x51∧s = .int .i64 j∧FS W wr tb T tx∧T.norm=mkN x2 o x Lx ca va m [] []∧RES=fP N x2 o x Lx ca va (x51-j) m tx) (fun s _=>x51-(intOf s).toNat)
     case atStart=>exact⟨0,T,t51,[],Nat.zero_le _,rfl,HF51.out,HN50.out,HP51.out⟩
     case round=>
      clear HF51 HN50 HP51;obtain⟨j,T,tx,m,hj,rfl,hf,hn,hp⟩:=hrel;have HFs:=za hf;have HNs:=za hn
      by_cases hlt:j<x51
      ·have HJ:=za hlt
       have HPs:=za (hp.trans (fP_step hlt));clear hf hn hp
       go_upto_region 27 with (first
        | (go_at_call 98;refine(HFs.out.id).mono ?_;rintro e w27 (⟨x27,t27,hr,rfl,hf,ht27⟩|⟨hr,rfl,hf⟩) <;> first|(have HX27:=za hr;have HF27:=za hf;have hp:=HPs.out;rw[hr,Option.bind_some] at hp;dsimp only at hp;have HP27:=za hp;(try dsimp only);clear hp hf;obtain⟨ik,iv⟩:=x27;simp only[zx];clear hr)|(simp only[xh];have hp:=HPs.out;rw[hr] at hp;exact zr.bad hf rfl rfl (yk hp))))
       have hpx:=HP27.out
       (try dsimp only at hpx)
       have HP27b:=za hpx;clear hpx;have hbx:=heap_alloc_new w27 (.cells #[.string ik,.int .i64 iv] 54);have hgx:w27.grownBy (w27.alloc (.cells #[.string ik,.int .i64 iv] 54)) none:=zc w27 _ none;have HFx:=za (HF27.out.grow hgx);have hbr:=HF27.out.rlt;generalize w27.alloc (.cells #[.string ik,.int .i64 iv] 54)=wx at *;have hbn:w27.heap.size≠W.heap.size+1+1:=by omega
       have hlb:=HF27.out.rep.lt;have hvb:T.vb≠w27.heap.size:=fun e=>Nat.lt_irrefl _ (Nat.lt_of_lt_of_eq (hlb T.vb (by simp[Tab.blocks])) e.symm)
       have hpb:T.pb≠w27.heap.size:=fun e=>Nat.lt_irrefl _ (Nat.lt_of_lt_of_eq (hlb T.pb (by simp[Tab.blocks])) e.symm)
       have HVB:Hid (some w27.heap.size≠some T.vb∧some w27.heap.size≠some T.pb):=(show _∧_ from ⟨fun e=>hvb (Option.some.inj e).symm,fun e=>hpb (Option.some.inj e).symm⟩)
       have HBN:=za hbn;have HBX:=za hbx;clear hbx hgx hbr hbn hlb hvb hpb HF27;generalize w27.heap.size=bx at *
       by_cases z0:1≤iv
       case neg=>
        have HFxd:=za (HFx.out.grow (zf (zd _)));have hS0:(fun w':World=>w'.cell? ⟨W.heap.size,0,none⟩=some (.pointer (some ⟨tb,0,none⟩))∧w'.cell? ⟨tb,2,none⟩=some (.int .i64 x)∧w'.cell? ⟨bx,1,none⟩=some (.int .i64 iv)) _:=⟨HFxd.out.c2,HFxd.out.k2 HNs.out,(Jc (xt HBX.out (zf (zd _)) (by simp))).2⟩
        dsimp only at hS0;refine wp_region_held_drew (S:=fun w':World=>w'.cell? ⟨W.heap.size,0,none⟩=some (.pointer (some ⟨tb,0,none⟩))∧w'.cell? ⟨tb,2,none⟩=some (.int .i64 x)∧w'.cell? ⟨bx,1,none⟩=some (.int .i64 iv)) (by kernel_rfl) hS0 (fun hHeld=>?_)
        clear hS0;refine tg 0 ?_ hHeld ?_ ?_ rfl (by kernel_rfl) rfl fun _ _ _=>zr.up rfl
        rotate_left
        ·rintro w ⟨s1,s2,s3⟩;go_simp;try with_reducible rfl
        (try simp only[Act.put,pA,pB,pC])
        refine tg 1 ?_ hHeld ?_ ?_ rfl (by kernel_rfl) rfl fun _ _ _=>zr.up rfl
        rotate_left
        ·rintro w ⟨s1,s2,s3⟩;go_simp;try with_reducible rfl
        (try simp only[Act.put,pA,pB,pC])
        refine tg 2 ?_ hHeld ?_ ?_ rfl (by kernel_rfl) rfl fun _ _ _=>zr.up rfl
        rotate_left
        ·rintro w ⟨s1,s2,s3⟩;go_simp;try with_reducible rfl
        (try simp only[Act.put,pA,pB,pC])
        refine tg 3 ?_ hHeld ?_ ?_ rfl (by kernel_rfl) rfl fun _ _ _=>zr.up rfl
        rotate_left
        ·rintro w ⟨s1,s2,s3⟩;go_simp;try with_reducible rfl
        (try simp only[Act.put,pA,pB,pC])
        refine tgn 4 hHeld ?_ rfl (by kernel_rfl) rfl fun _ _ _=>zr.up rfl
        (try simp only[Act.put,pA,pB,pC])
        refine tgn 5 hHeld ?_ rfl (by kernel_rfl) rfl fun _ _ _=>zr.up rfl
        (try simp only[Act.put,pA,pB,pC])
        refine tgn 6 hHeld ?_ rfl (by kernel_rfl) rfl fun _ _ _=>zr.up rfl
        (try simp only[Act.put,pA,pB,pC])
        refine tgn 7 hHeld ?_ rfl (by kernel_rfl) rfl fun _ _ _=>zr.up rfl
        (try simp only[Act.put,pA,pB,pC])
        refine tgn 8 hHeld ?_ rfl (by kernel_rfl) rfl fun _ _ _=>zr.up rfl
        (try simp only[Act.put,pA,pB,pC])
        refine tgn 9 hHeld ?_ rfl (by kernel_rfl) rfl fun _ _ _=>zr.up rfl
        (try simp only[Act.put,pA,pB,pC])
        refine tgn 10 hHeld ?_ rfl (by kernel_rfl) rfl fun _ _ _=>zr.up rfl
        (try simp only[Act.put,pA,pB,pC])
        refine tg 11 ?_ hHeld ?_ ?_ rfl (by kernel_rfl) rfl fun _ _ _=>zr.up rfl
        rotate_left
        ·rintro w ⟨s1,s2,s3⟩;go_simp;try with_reducible rfl
        (try simp only[Act.put,pA,pB,pC])
        refine rdy 12 (fun K hK=>?_) rfl (by kernel_rfl)
        go_simp
        refine(yt _).mono ?_;rintro e wz ⟨rfl,rfl⟩
        exact zr.bad HFxd.out.fb rfl rfl (yk (by have hp:=HP27b.out;rw[if_neg (by omega)] at hp;exact hp))
       by_cases z1:iv<x
       case neg=>
        have HFxd:=za (HFx.out.grow (zf (zd _)));have hS0:(fun w':World=>w'.cell? ⟨W.heap.size,0,none⟩=some (.pointer (some ⟨tb,0,none⟩))∧w'.cell? ⟨tb,2,none⟩=some (.int .i64 x)∧w'.cell? ⟨bx,1,none⟩=some (.int .i64 iv)) _:=⟨HFxd.out.c2,HFxd.out.k2 HNs.out,(Jc (xt HBX.out (zf (zd _)) (by simp))).2⟩
        dsimp only at hS0;refine wp_region_held_drew (S:=fun w':World=>w'.cell? ⟨W.heap.size,0,none⟩=some (.pointer (some ⟨tb,0,none⟩))∧w'.cell? ⟨tb,2,none⟩=some (.int .i64 x)∧w'.cell? ⟨bx,1,none⟩=some (.int .i64 iv)) (by kernel_rfl) hS0 (fun hHeld=>?_)
        clear hS0;refine tg 0 ?_ hHeld ?_ ?_ rfl (by kernel_rfl) rfl fun _ _ _=>zr.up rfl
        rotate_left
        ·rintro w ⟨s1,s2,s3⟩;go_simp;try with_reducible rfl
        (try simp only[Act.put,pA,pB,pC])
        refine tg 1 ?_ hHeld ?_ ?_ rfl (by kernel_rfl) rfl fun _ _ _=>zr.up rfl
        rotate_left
        ·rintro w ⟨s1,s2,s3⟩;go_simp;try with_reducible rfl
        (try simp only[Act.put,pA,pB,pC])
        refine tg 2 ?_ hHeld ?_ ?_ rfl (by kernel_rfl) rfl fun _ _ _=>zr.up rfl
        rotate_left
        ·rintro w ⟨s1,s2,s3⟩;go_simp;try with_reducible rfl
        (try simp only[Act.put,pA,pB,pC])
        refine tg 3 ?_ hHeld ?_ ?_ rfl (by kernel_rfl) rfl fun _ _ _=>zr.up rfl
        rotate_left
        ·rintro w ⟨s1,s2,s3⟩;go_simp;try with_reducible rfl
        (try simp only[Act.put,pA,pB,pC])
        refine tg 4 ?_ hHeld ?_ ?_ rfl (by kernel_rfl) rfl fun _ _ _=>zr.up rfl
        rotate_left
        ·rintro w ⟨s1,s2,s3⟩;go_simp;try with_reducible rfl
        (try simp only[Act.put,pA,pB,pC])
        refine tg 5 ?_ hHeld ?_ ?_ rfl (by kernel_rfl) rfl fun _ _ _=>zr.up rfl
        rotate_left
        ·rintro w ⟨s1,s2,s3⟩;go_simp;try with_reducible rfl
        (try simp only[Act.put,pA,pB,pC])
        refine tg 6 ?_ hHeld ?_ ?_ rfl (by kernel_rfl) rfl fun _ _ _=>zr.up rfl
        rotate_left
        ·rintro w ⟨s1,s2,s3⟩;go_simp;try with_reducible rfl
        (try simp only[Act.put,pA,pB,pC])
        refine tg 7 ?_ hHeld ?_ ?_ rfl (by kernel_rfl) rfl fun _ _ _=>zr.up rfl
        rotate_left
        ·rintro w ⟨s1,s2,s3⟩;go_simp;try with_reducible rfl
        (try simp only[Act.put,pA,pB,pC])
        refine tg 8 ?_ hHeld ?_ ?_ rfl (by kernel_rfl) rfl fun _ _ _=>zr.up rfl
        rotate_left
        ·rintro w ⟨s1,s2,s3⟩;go_simp;try with_reducible rfl
        (try simp only[Act.put,pA,pB,pC])
        refine tg 9 ?_ hHeld ?_ ?_ rfl (by kernel_rfl) rfl fun _ _ _=>zr.up rfl
        rotate_left
        ·rintro w ⟨s1,s2,s3⟩;go_simp;try with_reducible rfl
        (try simp only[Act.put,pA,pB,pC])
        refine tg 10 ?_ hHeld ?_ ?_ rfl (by kernel_rfl) rfl fun _ _ _=>zr.up rfl
        rotate_left
        ·rintro w ⟨s1,s2,s3⟩;go_simp;try with_reducible rfl
        (try simp only[Act.put,pA,pB,pC])
        refine tg 11 ?_ hHeld ?_ ?_ rfl (by kernel_rfl) rfl fun _ _ _=>zr.up rfl
        rotate_left
        ·rintro w ⟨s1,s2,s3⟩;go_simp;try with_reducible rfl
        (try simp only[Act.put,pA,pB,pC])
        refine rdy 12 (fun K hK=>?_) rfl (by kernel_rfl)
        go_simp
        refine(yt _).mono ?_;rintro e wz ⟨rfl,rfl⟩
        exact zr.bad HFxd.out.fb rfl rfl (yk (by have hp:=HP27b.out;rw[if_neg (by omega)] at hp;exact hp))
       have HFxd:=za (HFx.out.grow (zf (zd _)));have hS0:(fun w':World=>w'.cell? ⟨W.heap.size,0,none⟩=some (.pointer (some ⟨tb,0,none⟩))∧w'.cell? ⟨tb,2,none⟩=some (.int .i64 x)∧w'.cell? ⟨bx,1,none⟩=some (.int .i64 iv)) _:=⟨HFxd.out.c2,HFxd.out.k2 HNs.out,(Jc (xt HBX.out (zf (zd _)) (by simp))).2⟩
       dsimp only at hS0;refine wp_region_held_drew (S:=fun w':World=>w'.cell? ⟨W.heap.size,0,none⟩=some (.pointer (some ⟨tb,0,none⟩))∧w'.cell? ⟨tb,2,none⟩=some (.int .i64 x)∧w'.cell? ⟨bx,1,none⟩=some (.int .i64 iv)) (by kernel_rfl) hS0 (fun hHeld=>?_)
       clear hS0;refine tg 0 ?_ hHeld ?_ ?_ rfl (by kernel_rfl) rfl fun _ _ _=>zr.up rfl
       rotate_left
       ·rintro w ⟨s1,s2,s3⟩;go_simp;try with_reducible rfl
       (try simp only[Act.put,pA,pB,pC])
       refine tg 1 ?_ hHeld ?_ ?_ rfl (by kernel_rfl) rfl fun _ _ _=>zr.up rfl
       rotate_left
       ·rintro w ⟨s1,s2,s3⟩;go_simp;try with_reducible rfl
       (try simp only[Act.put,pA,pB,pC])
       refine tg 2 ?_ hHeld ?_ ?_ rfl (by kernel_rfl) rfl fun _ _ _=>zr.up rfl
       rotate_left
       ·rintro w ⟨s1,s2,s3⟩;go_simp;try with_reducible rfl
       (try simp only[Act.put,pA,pB,pC])
       refine tg 3 ?_ hHeld ?_ ?_ rfl (by kernel_rfl) rfl fun _ _ _=>zr.up rfl
       rotate_left
       ·rintro w ⟨s1,s2,s3⟩;go_simp;try with_reducible rfl
       (try simp only[Act.put,pA,pB,pC])
       refine tg 4 ?_ hHeld ?_ ?_ rfl (by kernel_rfl) rfl fun _ _ _=>zr.up rfl
       rotate_left
       ·rintro w ⟨s1,s2,s3⟩;go_simp;try with_reducible rfl
       (try simp only[Act.put,pA,pB,pC])
       refine tg 5 ?_ hHeld ?_ ?_ rfl (by kernel_rfl) rfl fun _ _ _=>zr.up rfl
       rotate_left
       ·rintro w ⟨s1,s2,s3⟩;go_simp;try with_reducible rfl
       (try simp only[Act.put,pA,pB,pC])
       refine tg 6 ?_ hHeld ?_ ?_ rfl (by kernel_rfl) rfl fun _ _ _=>zr.up rfl
       rotate_left
       ·rintro w ⟨s1,s2,s3⟩;go_simp;try with_reducible rfl
       (try simp only[Act.put,pA,pB,pC])
       refine tg 7 ?_ hHeld ?_ ?_ rfl (by kernel_rfl) rfl fun _ _ _=>zr.up rfl
       rotate_left
       ·rintro w ⟨s1,s2,s3⟩;go_simp;try with_reducible rfl
       (try simp only[Act.put,pA,pB,pC])
       refine tg 8 ?_ hHeld ?_ ?_ rfl (by kernel_rfl) rfl fun _ _ _=>zr.up rfl
       rotate_left
       ·rintro w ⟨s1,s2,s3⟩;go_simp;try with_reducible rfl
       (try simp only[Act.put,pA,pB,pC])
       refine tg 9 ?_ hHeld ?_ ?_ rfl (by kernel_rfl) rfl fun _ _ _=>zr.up rfl
       rotate_left
       ·rintro w ⟨s1,s2,s3⟩;go_simp;try with_reducible rfl
       (try simp only[Act.put,pA,pB,pC])
       refine tg 10 ?_ hHeld ?_ ?_ rfl (by kernel_rfl) rfl fun _ _ _=>zr.up rfl
       rotate_left
       ·rintro w ⟨s1,s2,s3⟩;go_simp;try with_reducible rfl
       (try simp only[Act.put,pA,pB,pC])
       refine tg 11 ?_ hHeld ?_ ?_ rfl (by kernel_rfl) rfl fun _ _ _=>zr.up rfl
       rotate_left
       ·rintro w ⟨s1,s2,s3⟩;go_simp;try with_reducible rfl
       (try simp only[Act.put,pA,pB,pC])
       refine rdy 12 (fun K hK=>?_) rfl (by kernel_rfl)
       go_simp
       refine(xu _).mono ?_;rintro e wz ⟨rfl,rfl⟩;refine hK.out _ _ (hHeld) (fun hHeld=>?_)
       clear hK K
       (try simp only[Act.put,pA,pB,pC])
       refine wpAnyH_done (by kernel_rfl) ?_ _
       clear hHeld
       go_upto_region 28 with fail
       have HBXd:=za (xt HBX.out (zf (zd wx)) (by simp))
       have hp:=HP27b.out;rw[if_pos ⟨z0,z1⟩] at hp;have HPy:=za hp;clear hp HBX HP27b HFx;generalize wx.drew=wy at *;have HFyd:=za (HFxd.out.grow (zf (zd _)));have hS0:(fun w':World=>w'.cell? ⟨W.heap.size,0,none⟩=some (.pointer (some ⟨tb,0,none⟩))∧w'.cell? ⟨tb,6,none⟩=some (.map (some T.pb))∧w'.cell? ⟨bx,0,none⟩=some (.string ik)∧w'.cell? ⟨bx,1,none⟩=some (.int .i64 iv)) _:=⟨HFyd.out.c2,HFyd.out.rep.c6,(Jc (xt HBXd.out (zf (zd _)) (by simp))).1,(Jc (xt HBXd.out (zf (zd _)) (by simp))).2⟩
       dsimp only at hS0;refine wp_region_held_drew (S:=fun w':World=>w'.cell? ⟨W.heap.size,0,none⟩=some (.pointer (some ⟨tb,0,none⟩))∧w'.cell? ⟨tb,6,none⟩=some (.map (some T.pb))∧w'.cell? ⟨bx,0,none⟩=some (.string ik)∧w'.cell? ⟨bx,1,none⟩=some (.int .i64 iv)) (by kernel_rfl) hS0 (fun hHeld=>?_)
       clear hS0;refine tg 0 ?_ hHeld ?_ ?_ rfl (by kernel_rfl) rfl fun _ _ _=>zr.up rfl
       rotate_left
       ·rintro w ⟨s1,s2,s3,s4⟩;go_simp;try with_reducible rfl
       (try simp only[Act.put,pA,pB,pC])
       refine tg 1 ?_ hHeld ?_ ?_ rfl (by kernel_rfl) rfl fun _ _ _=>zr.up rfl
       rotate_left
       ·rintro w ⟨s1,s2,s3,s4⟩;go_simp;try with_reducible rfl
       (try simp only[Act.put,pA,pB,pC])
       refine tg 2 ?_ hHeld ?_ ?_ rfl (by kernel_rfl) rfl fun _ _ _=>zr.up rfl
       rotate_left
       ·rintro w ⟨s1,s2,s3,s4⟩;go_simp;try with_reducible rfl
       (try simp only[Act.put,pA,pB,pC])
       refine tg 3 ?_ hHeld ?_ ?_ rfl (by kernel_rfl) rfl fun _ _ _=>zr.up rfl
       rotate_left
       ·rintro w ⟨s1,s2,s3,s4⟩;go_simp;try with_reducible rfl
       (try simp only[Act.put,pA,pB,pC])
       refine tg 4 ?_ hHeld ?_ ?_ rfl (by kernel_rfl) rfl fun _ _ _=>zr.up rfl
       rotate_left
       ·rintro w ⟨s1,s2,s3,s4⟩;go_simp;try with_reducible rfl
       (try simp only[Act.put,pA,pB,pC])
       refine tg 5 ?_ hHeld ?_ ?_ rfl (by kernel_rfl) rfl fun _ _ _=>zr.up rfl
       rotate_left
       ·rintro w ⟨s1,s2,s3,s4⟩;go_simp;try with_reducible rfl
       (try simp only[Act.put,pA,pB,pC])
       refine tg 7 ?_ hHeld ?_ ?_ rfl (by kernel_rfl) rfl fun _ _ _=>zr.up rfl
       rotate_left
       ·rintro w ⟨s1,s2,s3,s4⟩;go_simp;try with_reducible rfl
       (try simp only[Act.put,pA,pB,pC])
       refine rdy 6 (fun K hK=>?_) rfl (by kernel_rfl)
       go_simp
       refine(HFyd.out.num 2 (by omega)).mono ?_
       rintro e w28 (⟨x28,t28,hr,rfl,hf,ht28⟩|⟨hr,rfl,hf⟩)
       rotate_left
       ·have hp:=HPy.out
        rw[hr] at hp
        exact zr.bad hf rfl rfl (yk hp)
       have HX28:=za hr;have HF28:=za hf;have hp:=HPy.out;rw[hr,Option.bind_some] at hp;dsimp only at hp;have HP28:=za hp
       (try dsimp only)
       clear hp hf;have hx28:x28<256 ^ 2:=za0 HFyd.out.bl hr;rw[Ub (x:=x28) (by omega)]
       clear hr;refine hK.out _ _ (⟨HF28.out.c2,HF28.out.rep.c6,(Jc (Zy (xt HBXd.out (zf (zd _)) (by simp)) ht28 HBN.out)).1,(Jc (Zy (xt HBXd.out (zf (zd _)) (by simp)) ht28 HBN.out)).2⟩) (fun hHeld=>?_)
       clear hK K
       (try simp only[Act.put,pA,pB,pC])
       refine rdy 8 (fun K hK=>?_) rfl (by kernel_rfl)
       go_simp
       refine(HF28.out.num 8 (by omega)).mono ?_
       rintro e w29 (⟨x29,t29,hr,rfl,hf,ht29⟩|⟨hr,rfl,hf⟩)
       rotate_left
       ·have hp:=HP28.out
        rw[hr] at hp
        exact zr.bad hf rfl rfl (yk hp)
       have HX29:=za hr;have HF29:=za hf;have hp:=HP28.out;rw[hr,Option.bind_some] at hp;dsimp only at hp;have HP29:=za hp
       (try dsimp only)
       clear hp hf;clear hr;refine hK.out _ _ (⟨HF29.out.c2,HF29.out.rep.c6,(Jc (Zy (Zy (xt HBXd.out (zf (zd _)) (by simp)) ht28 HBN.out) ht29 HBN.out)).1,(Jc (Zy (Zy (xt HBXd.out (zf (zd _)) (by simp)) ht28 HBN.out) ht29 HBN.out)).2⟩) (fun hHeld=>?_)
       clear hK K
       (try simp only[Act.put,pA,pB,pC])
       generalize s64 x29=rq at *;refine tg 9 ?_ hHeld ?_ ?_ rfl (by kernel_rfl) rfl fun _ _ _=>zr.up rfl
       rotate_left
       ·rintro w ⟨s1,s2,s3,s4⟩;go_simp;try with_reducible rfl
       (try simp only[Act.put,pA,pB,pC])
       refine rdy 10 (fun K hK=>?_) rfl (by kernel_rfl)
       refine zat (ek:=zx) (ev:=xw) rfl _ _ _ 119 rfl zdf Tryz.underlying119 T.pb m rfl (HF29.out.mp HNs.out) ⟨ik,iv⟩ ⟨(x28:Int),rq⟩ rfl rfl ?_;intro w30 hm hg;obtain⟨T2,hf,hn,hcb⟩:=HF29.out.setPend HNs.out hm hg;have HF30:=za hf;have HN30:=za hn;have HCB:=za hcb;have HB30:=za (xt (Zy (Zy (xt HBXd.out (zf (zd _)) (by simp)) ht28 HBN.out) ht29 HBN.out) hg HVB.out.2)
       clear hf hn hcb hm hg;refine hK.out _ _ (⟨HF30.out.c2,by rw[←HCB.out];exact HF30.out.rep.c6,(Jc HB30.out).1,(Jc HB30.out).2⟩) (fun hHeld=>?_)
       clear hK K
       (try simp only[Act.put,pA,pB,pC])
       refine wpAnyH_done (by kernel_rfl) ?_ _
       clear hHeld;go_wp2
       go_roundw
       case rel=>exact⟨j+1,T2,t29,_,by omega,by go_num,HF30.out,HN30.out,HP29.out⟩
       case measure=>simp[intOf];omega
      ·obtain rfl:j=x51:=by omega
       have HPE:=za (hp.trans fP_end);clear hf hn hp;go_wp2
       go_meet
       exact⟨T,tx,m,HFs.out,HNs.out,HPE.out⟩
    case rest=>
     clear HF51 HN50 HP51 hc51;obtain⟨T,tx,pe,hf,hn,hp⟩:=hcut;have HF60:=za hf;have HN60:=za hn;have HP60:Hid (RES=fH N x2 o x Lx ca va pe tx):=(show _=_ from hp)
     clear hf hn hp;generalize wc=w60 at *;have HM60:Hid (zw w60 T.hb zx yw []):=(show zw _ _ _ _ _ from by have e:=FS.h0 HN60.out;have h1:=HF60.out.rep.holds;rw[e] at h1;exact h1)
     have HFAR:Hid (W.heap.size+3≤T.hb):=(show _≤_ from HF60.out.far _ (by simp[Tab.blocks]))
     have c2:=HF60.out.c2;have c7:=HF60.out.rep.c7
     go_upto_region 31 with (go_at_call 99;refine(zi5 HF60.out.rdr (by have h:=HFAR.out;omega) (by have h:=HFAR.out;omega) HF60.out.bl N HM60.out).mono ?_;rintro e w61 ⟨ht,⟨m61,t61,hr,rfl,hd,hb,hs⟩|⟨hr,rfl⟩⟩ <;> first
      | (have hp:=HP60.out;rw[fH,hr,Option.bind_some] at hp;dsimp only at hp;have HP61:=za hp;obtain⟨T2,hf,hn,hrb⟩:=HF60.out.setHolds HN60.out ht hd hb hs;have HF61:=za hf;have HN61:=za hn;clear hp hf hn hrb hr hd hb hs ht)
      | (simp only[xh];have hp:=HP60.out;rw[fH,hr] at hp;exact zr.bad (HF60.out.fb.turn2 HFAR.out ht) rfl rfl (yk hp)))
     clear c2 c7 HFAR HM60 HF60 HN60 HP60;have HM61:Hid (zw w61 T2.rb zx yw []):=(show zw _ _ _ _ _ from by have e:=FS.r0 HN61.out;have h1:=HF61.out.rep.zv2;rw[e] at h1;exact h1)
     have HFAR:Hid (W.heap.size+3≤T2.rb):=(show _≤_ from HF61.out.far _ (by simp[Tab.blocks]))
     have c2:=HF61.out.c2;have c8:=HF61.out.rep.c8
     go_upto_region 32 with (go_at_call 99;refine(zi5 HF61.out.rdr (by have h:=HFAR.out;omega) (by have h:=HFAR.out;omega) HF61.out.bl N HM61.out).mono ?_;rintro e w62 ⟨ht,⟨m62,t62,hr,rfl,hd,hb,hs⟩|⟨hr,rfl⟩⟩ <;> first
      | (have hp:=HP61.out;rw[fR,hr,Option.bind_some] at hp;dsimp only at hp;have HP62:=za hp;obtain⟨T3,hf,hn⟩:=HF61.out.setRefs HN61.out ht hd hb hs;have HF62:=za hf;have HN62:=za hn;clear hp hf hn hr hd hb hs ht)
      | (simp only[xh];have hp:=HP61.out;rw[fR,hr] at hp;exact zr.bad (HF61.out.fb.turn2 HFAR.out ht) rfl rfl (yk hp)))
     clear c2 c8 HFAR HM61 HF61 HN61 HP61;have HPN:Hid (RES=some T3.norm):=(show _=_ from HP62.out.trans (by rw[HN62.out];rfl))
     have HTF:Hid (zd1 T3):=(show zd1 _ from (HFIT.out _ HPN.out).of_norm)
     have c2:=HF62.out.c2
     by_cases hq:qa T3=l0
     ·have HQ:=za hq
      have hdq:decide (qa T3=l0)=true:=decide_eq_true hq
      go_upto_region 33 with (first
       | (go_at_call 40;refine(zbt HF62.out.rep HTF.out).mono ?_;rintro e w63 ⟨vv,rfl,ho,hg⟩;have HO:=za (xq ho);have HG:=za hg;clear ho hg)
       | (go_at_call 100;refine(zim HO.out (HV.out.turn fun k hk=>(HG.out.block k (Nat.lt_of_lt_of_le hk HF62.out.gr.size) (by simp)).trans (HF62.out.gr.block k hk (by simp)))).mono ?_;rintro e w64 ⟨rfl,hg⟩;(try rw[hdq]);have HG2:=za hg;clear hg)
       | (go_at_call 59;first|(refine(xu _).mono ?_;rintro e wz ⟨rfl,rfl⟩)|(refine(yt _).mono ?_;rintro e wz ⟨rfl,rfl⟩;simp only[xh])))
      have HF64:=za ((HF62.out.grow HG.out).grow HG2.out);clear c2 HF62 HG HG2 HO;have c2:=HF64.out.c2;have c3:=HF64.out.c3;have f2:=HF64.out.free2;have f3:=HF64.out.free3;go_wp2;have hfin:=HF64.out.fin _ rfl
      exact⟨rfl,rfl,rfl,hfin.1,tb,T3,hfin.2.1,hfin.2.2.1,HPN.out,by rw[Jg];exact HQ.out,hfin.2.2.2,fun b hb=>by have:=HF64.out.far b hb;omega⟩
     ·have HQ:=za hq
      have hdq:decide (qa T3=l0)=false:=decide_eq_false hq
      go_wp2_with (first
       | (go_at_call 40;refine(zbt HF62.out.rep HTF.out).mono ?_;rintro e w63 ⟨vv,rfl,ho,hg⟩;have HO:=za (xq ho);have HG:=za hg;clear ho hg)
       | (go_at_call 100;refine(zim HO.out (HV.out.turn fun k hk=>(HG.out.block k (Nat.lt_of_lt_of_le hk HF62.out.gr.size) (by simp)).trans (HF62.out.gr.block k hk (by simp)))).mono ?_;rintro e w64 ⟨rfl,hg⟩;(try rw[hdq]);have HG2:=za hg;clear hg)
       | (go_at_call 59;first|(refine(xu _).mono ?_;rintro e wz ⟨rfl,rfl⟩)|(refine(yt _).mono ?_;rintro e wz ⟨rfl,rfl⟩;simp only[xh])))
      exact zr.bad ((HF62.out.fb.grow HG.out).grow HG2.out) rfl rfl (fun L e he=>HQ.out (by have h1:=HPN.out;rw[h1] at e;cases e;rw[←Jg];exact he))
end Go.Proofs.YtjfelfjobeeenaaGreat
