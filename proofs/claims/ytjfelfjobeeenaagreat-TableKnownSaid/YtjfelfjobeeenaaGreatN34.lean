/- TablePuts: the walks. Conditions: none, or as the theorems say. -/
import Derived.Test.YtjfelfjobeeenaaGreatN31
import Derived.Test.YtjfelfjobeeenaaGreatN17
import Derived.Deep.RegionHeld3
import Derived.Deep.DeepCutAuto
namespace Go.Proofs.YtjfelfjobeeenaaGreat
set_option maxHeartbeats 200000000
set_option linter.unusedVariables false
set_option linter.unusedSimpArgs false
open Go.RowKit Go.Sf
theorem zp1 {c:Cmd} (h:ua c=true):(xm c).length≤200:=by
 obtain⟨p1,p2,p3,p4,p5,p6,p7,p8,p9,p10,p11,p12,p13⟩:=ux h;have h1:(Yo c).length≤10:=by simp only[Yo];(repeat' split);all_goals simp[yn]
 have h2:(Qw c).length≤65:=by simp only[Qw];split <;> simp[yn,zy];omega
 have h3:(Yr c).length≤8:=by simp only[Yr];(repeat' split);all_goals simp[yn]
 simp only[xm,List.length_append,yn];omega
set_option maxRecDepth 100000 in
theorem puts_ys (kind node zvw zvx zvy zvz code:Int) (key:ByteArray) (hm:ua ⟨kind,node,zvw,zvx,zvy,zvz,key,code⟩=true) (hk:key.size≤300) (pb:Option Addr) (cb:Nat) (l:List Int) (W:World) (hb:uy W.heap.size W (.slice pb l.length cb) l) (hl:BL l) (hl4:l.length≤400) (dk dn dc di dr dv do_:Int) (dy:ByteArray) (hd:jh l=some ⟨dk,dn,dc,di,dr,dv,dy,do_⟩) :
  Calls Tryz.prog 3 #[(.agg #[.int .u8 kind,.int .i64 node,.int .i64 zvw,.int .i64 zvx,.int .i64 zvy,.int .i64 zvz,.string key,.int .i64 code]:Value),.slice pb l.length cb] W fun e w'=>e = .returned (.bool true)∧W.grownBy w' none:=by
 have HPL:Hid (∀W',Calls Tryz.prog 12 #[(.agg #[.int .u8 kind,.int .i64 node,.int .i64 zvw,.int .i64 zvx,.int .i64 zvy,.int .i64 zvz,.string key,.int .i64 code]:Value)] W' fun e w'=>e = .returned (.agg #[.int .u8 kind,.int .i64 node,.int .i64 zvw,.int .i64 zvx,.int .i64 zvy,.int .i64 zvz,.string key,.int .i64 code]:Value)∧W'.grownBy w' none):=(show ∀_,_ from fun W'=>Jr ⟨kind,node,zvw,zvx,zvy,zvz,key,code⟩ W')
 have HMY:Hid (∀W',Calls Tryz.prog 11 #[(.agg #[.int .u8 kind,.int .i64 node,.int .i64 zvw,.int .i64 zvx,.int .i64 zvy,.int .i64 zvz,.string key,.int .i64 code]:Value)] W' fun e w'=>e = .returned (.bool true)∧W'.grownBy w' none):=(show ∀_,_ from fun W'=>by have h:=zbl ⟨kind,node,zvw,zvx,zvy,zvz,key,code⟩ (by simp only;omega) W';rw[hm] at h;exact h)
 have HWK:=za qd;have HE0:=za (show jh (xm ⟨kind,node,zvw,zvx,zvy,zvz,key,code⟩)=some ⟨kind,node,zvw,zvx,zvy,zvz,key,code⟩ from zj7 hm)
 have HE1:=za (show jh (xm ⟨kind,node,zvw,zvx,zvy,zvz,key,code⟩).dropLast=none from zlq hm)
 have HE2:=za (show jh (xm ⟨kind,node,zvw,zvx,zvy,zvz,key,code⟩ ++ [0])=none from zgl hm 0)
 have HEB:=za (show BL (xm ⟨kind,node,zvw,zvx,zvy,zvz,key,code⟩) from zoh _)
 have HEL:Hid ((xm ⟨kind,node,zvw,zvx,zvy,zvz,key,code⟩).length≤200):=(show(xm ⟨kind,node,zvw,zvx,zvy,zvz,key,code⟩).length≤200 from zp1 hm)
 have HPU:Hid (∀W',Calls Tryz.prog 13 #[(.agg #[.int .u8 kind,.int .i64 node,.int .i64 zvw,.int .i64 zvx,.int .i64 zvy,.int .i64 zvz,.string key,.int .i64 code]:Value)] W' fun e w'=>∃v',e = .returned (.tuple #[v',.int .i64 0])∧w'.ownsRow W'.heap.size 5 1 v' (xm ⟨kind,node,zvw,zvx,zvy,zvz,key,code⟩).length (zu (xm ⟨kind,node,zvw,zvx,zvy,zvz,key,code⟩))∧W'.grownBy w' none):=(show ∀_,_ from fun W'=>zkw ⟨kind,node,zvw,zvx,zvy,zvz,key,code⟩ W' hm)
 have HRB:Hid (∀W',Calls Tryz.prog 14 #[(.agg #[.int .u8 kind,.int .i64 node,.int .i64 zvw,.int .i64 zvx,.int .i64 zvy,.int .i64 zvz,.string key,.int .i64 code]:Value)] W' fun e w'=>∃v,e = .returned v∧w'.ownsRow W'.heap.size 5 1 v (xm ⟨kind,node,zvw,zvx,zvy,zvz,key,code⟩).length (zu (xm ⟨kind,node,zvw,zvx,zvy,zvz,key,code⟩))∧W'.grownBy w' none):=(show ∀_,_ from fun W'=>zhg ⟨kind,node,zvw,zvx,zvy,zvz,key,code⟩ W' hm)
 have hne:=zoi ⟨kind,node,zvw,zvx,zvy,zvz,key,code⟩;generalize xm ⟨kind,node,zvw,zvx,zvy,zvz,key,code⟩=E at *;obtain⟨m,hEm⟩:∃m,E.length=m+1:=⟨E.length-1,by have:E.length≠0:=fun h=>hne (List.eq_nil_of_length_eq_zero h);omega⟩
 rw[hEm] at HPU HRB HEL;have HEM:=za hEm;have hm200:m≤200:=by have:=HEL.out;omega
 clear hne hEm;have HDM:Hid (ua ⟨dk,dn,dc,di,dr,dv,dy,do_⟩=true∧xm ⟨dk,dn,dc,di,dr,dv,dy,do_⟩=l):=(show _∧_ from zgm hl hd)
 have HPD:Hid (∀W',Calls Tryz.prog 13 #[(.agg #[.int .u8 dk,.int .i64 dn,.int .i64 dc,.int .i64 di,.int .i64 dr,.int .i64 dv,.string dy,.int .i64 do_]:Value)] W' fun e w'=>∃v',e = .returned (.tuple #[v',.int .i64 0])∧w'.ownsRow W'.heap.size 5 1 v' l.length (zu l)∧W'.grownBy w' none):=(show ∀_,_ from fun W'=>by have h:=zkw ⟨dk,dn,dc,di,dr,dv,dy,do_⟩ W' HDM.out.1;unfold Xi at h;rw[HDM.out.2] at h;exact h)
 clear HDM;have HB:=za hb;have HBL:=za hl;have HD:=za hd;have hkey:(key.size:Int)≤300:=by omega
 have hn400:(l.length:Int)≤400:=by omega
 clear hm hb hl hd
 go_enter Tryz.func3,Tryz.ntmps3
 go_upto_region 5 with (first
  | (go_at_call 12;refine(HPL.out _).mono ?_;rintro e w1 ⟨rfl,hg⟩;have HGA:=za hg;clear hg)
  | (go_at_call 11;refine(HMY.out _).mono ?_;rintro e w2 ⟨rfl,hg⟩;have HGB:=za (ze HGA.out hg);clear hg;obtain⟨d0,d1,d2,d3,d4,d5,d6,d7⟩:=zd4 HGB.out)
  | (go_at_call 13;refine(HPU.out _).mono ?_;rintro e w3 ⟨xv,rfl,hrow,hg⟩;obtain⟨px,cx,rfl⟩:=qs hrow;have HX:=za (xq (l:=E) (by rw[HEM.out];exact hrow));have H0:=za (ze HGB.out hg);clear hrow hg))
 clear d0 d1 d2 d3 d4 d5 d6 d7;clear HGA HGB
 go_cut [64] (fun s wx=>s = .bool false∧w3.grownBy wx none)
 case first=>
  have kS:=jr H0.out HX.out (zd w3);have HGp:=za (zd w3);refine wp_region_held_drew (S:=fun w'=>w'.cell? ⟨W.heap.size,0,none⟩=some (.int .u8 kind)∧w'.cell? ⟨W.heap.size,1,none⟩=some (.int .i64 node)∧w'.cell? ⟨W.heap.size,2,none⟩=some (.int .i64 zvw)∧w'.cell? ⟨W.heap.size,3,none⟩=some (.int .i64 zvx)∧w'.cell? ⟨W.heap.size,4,none⟩=some (.int .i64 zvy)∧w'.cell? ⟨W.heap.size,5,none⟩=some (.int .i64 zvz)∧w'.cell? ⟨W.heap.size,6,none⟩=some (.string key)∧w'.cell? ⟨W.heap.size,7,none⟩=some (.int .i64 code)∧(convert 25 9 (.slice px (m+1) cx)).run Tryz.prog w' = .ok (.string (ofB E)) w') (by kernel_rfl) (jr H0.out HX.out (zf (zd w3))) (fun hHeld=>?_)
  refine tg 0 ?_ hHeld ?_ ?_ rfl (by kernel_rfl) rfl fun _ _ _ h=>h
  rotate_left
  ·intro w hSw;(try dsimp only at hSw);go_simp;try with_reducible rfl
  (try simp only[Act.put,pA,pB,pC])
  refine tg 1 ?_ hHeld ?_ ?_ rfl (by kernel_rfl) rfl fun _ _ _ h=>h
  rotate_left
  ·intro w hSw;(try dsimp only at hSw);go_simp;try with_reducible rfl
  (try simp only[Act.put,pA,pB,pC])
  refine tg 2 ?_ hHeld ?_ ?_ rfl (by kernel_rfl) rfl fun _ _ _ h=>h
  rotate_left
  ·intro w hSw;(try dsimp only at hSw);go_simp;try with_reducible rfl
  (try simp only[Act.put,pA,pB,pC])
  refine tg 3 ?_ hHeld ?_ ?_ rfl (by kernel_rfl) rfl fun _ _ _ h=>h
  rotate_left
  ·intro w hSw;(try dsimp only at hSw);go_simp;try with_reducible rfl
  (try simp only[Act.put,pA,pB,pC])
  refine tg 4 ?_ hHeld ?_ ?_ rfl (by kernel_rfl) rfl fun _ _ _ h=>h
  rotate_left
  ·intro w hSw;(try dsimp only at hSw);go_simp;try with_reducible rfl
  (try simp only[Act.put,pA,pB,pC])
  refine tg 5 ?_ hHeld ?_ ?_ rfl (by kernel_rfl) rfl fun _ _ _ h=>h
  rotate_left
  ·intro w hSw;(try dsimp only at hSw);go_simp;try with_reducible rfl
  (try simp only[Act.put,pA,pB,pC])
  refine tg 6 ?_ hHeld ?_ ?_ rfl (by kernel_rfl) rfl fun _ _ _ h=>h
  rotate_left
  ·intro w hSw;(try dsimp only at hSw);go_simp;try with_reducible rfl
  (try simp only[Act.put,pA,pB,pC])
  refine tg 7 ?_ hHeld ?_ ?_ rfl (by kernel_rfl) rfl fun _ _ _ h=>h
  rotate_left
  ·intro w hSw;(try dsimp only at hSw);go_simp;try with_reducible rfl
  (try simp only[Act.put,pA,pB,pC])
  refine tgn 8 hHeld ?_ rfl (by kernel_rfl) rfl fun _ _ _ h=>h
  (try simp only[Act.put,pA,pB,pC])
  refine tgn 9 hHeld ?_ rfl (by kernel_rfl) rfl fun _ _ _ h=>h
  (try simp only[Act.put,pA,pB,pC])
  refine tgn 10 hHeld ?_ rfl (by kernel_rfl) rfl fun _ _ _ h=>h
  (try simp only[Act.put,pA,pB,pC])
  refine tgn 11 hHeld ?_ rfl (by kernel_rfl) rfl fun _ _ _ h=>h
  (try simp only[Act.put,pA,pB,pC])
  refine tgn 12 hHeld ?_ rfl (by kernel_rfl) rfl fun _ _ _ h=>h
  (try simp only[Act.put,pA,pB,pC])
  refine tgn 13 hHeld ?_ rfl (by kernel_rfl) rfl fun _ _ _ h=>h
  (try simp only[Act.put,pA,pB,pC])
  refine tgn 14 hHeld ?_ rfl (by kernel_rfl) rfl fun _ _ _ h=>h
  (try simp only[Act.put,pA,pB,pC])
  refine tg 15 ?_ hHeld ?_ ?_ rfl (by kernel_rfl) rfl fun _ _ _ h=>h
  rotate_left
  ·intro w hSw;(try dsimp only at hSw);go_simp;try with_reducible rfl
  (try simp only[Act.put,pA,pB,pC])
  refine tg 16 ?_ hHeld ?_ ?_ rfl (by kernel_rfl) rfl fun _ _ _ h=>h
  rotate_left
  ·intro w hSw;(try dsimp only at hSw);go_simp;try with_reducible rfl
  (try simp only[Act.put,pA,pB,pC])
  refine tg 17 ?_ hHeld ?_ ?_ rfl (by kernel_rfl) rfl fun _ _ _ h=>h
  rotate_left
  ·intro w hSw;(try dsimp only at hSw);go_simp;try with_reducible rfl
  (try simp only[Act.put,pA,pB,pC])
  refine tg 18 ?_ hHeld ?_ ?_ rfl (by kernel_rfl) rfl fun _ _ _ h=>h
  rotate_left
  ·intro w hSw;(try dsimp only at hSw);go_simp;try with_reducible rfl
  (try simp only[Act.put,pA,pB,pC])
  refine tg 19 ?_ hHeld ?_ ?_ rfl (by kernel_rfl) rfl fun _ _ _ h=>h
  rotate_left
  ·intro w hSw;(try dsimp only at hSw);go_simp;try with_reducible rfl
  (try simp only[Act.put,pA,pB,pC])
  refine tg 20 ?_ hHeld ?_ ?_ rfl (by kernel_rfl) rfl fun _ _ _ h=>h
  rotate_left
  ·intro w hSw;(try dsimp only at hSw);go_simp;try with_reducible rfl
  (try simp only[Act.put,pA,pB,pC])
  refine tg 21 ?_ hHeld ?_ ?_ rfl (by kernel_rfl) rfl fun _ _ _ h=>h
  rotate_left
  ·intro w hSw;(try dsimp only at hSw);go_simp;try with_reducible rfl
  (try simp only[Act.put,pA,pB,pC])
  refine tg 22 ?_ hHeld ?_ ?_ rfl (by kernel_rfl) rfl fun _ _ _ h=>h
  rotate_left
  ·intro w hSw;(try dsimp only at hSw);go_simp;try with_reducible rfl
  (try simp only[Act.put,pA,pB,pC])
  refine rdy 23 (fun K hK=>?_) rfl (by kernel_rfl)
  go_simp
  refine(HPL.out _).mono ?_;rintro e w4 ⟨rfl,hg⟩;replace HGp:=za (ze (ze HGp.out (by repeat (first|exact zd _|refine zg ?_ _|refine zf ?_))) hg)
  clear hg hHeld
  go_wp2_with fail
  refine hK.out _ _ (jr H0.out HX.out HGp.out) (fun hHeld=>?_)
  clear hK K
  (try simp only[Act.put,pA,pB,pC])
  refine rdy 24 (fun K hK=>?_) rfl (by kernel_rfl)
  go_simp
  refine(HRB.out _).mono ?_;rintro e w5 ⟨yv,rfl,hrow,hg⟩;obtain⟨py,cy,rfl⟩:=qs hrow;have hcy:=ys (xq (l:=E) (by rw[HEM.out];exact hrow))
  replace HGp:=za (ze (ze HGp.out (by repeat (first|exact zd _|refine zg ?_ _|refine zf ?_))) hg)
  clear hrow hg hHeld
  go_wp2_with fail
  refine hK.out _ _ (jr H0.out HX.out HGp.out) (fun hHeld=>?_)
  clear hK K
  (try simp only[Act.put,pA,pB,pC])
  refine rdy 25 (fun K hK=>?_) rfl (by kernel_rfl)
  go_simp
  refine hK.out _ _ (jr H0.out HX.out HGp.out) (fun hHeld=>?_)
  clear hK K
  (try simp only[Act.put,pA,pB,pC])
  refine tg 26 ?_ hHeld ?_ ?_ rfl (by kernel_rfl) rfl fun _ _ _ h=>h
  rotate_left
  ·intro w hSw;(try dsimp only at hSw);go_simp;try with_reducible rfl
  (try simp only[Act.put,pA,pB,pC])
  refine tg 27 ?_ hHeld ?_ ?_ rfl (by kernel_rfl) rfl fun _ _ _ h=>h
  rotate_left
  ·intro w hSw;(try dsimp only at hSw);go_simp;try with_reducible rfl
  (try simp only[Act.put,pA,pB,pC])
  refine tg 28 ?_ hHeld ?_ ?_ rfl (by kernel_rfl) rfl fun _ _ _ h=>h
  rotate_left
  ·intro w hSw;(try dsimp only at hSw);go_simp;try with_reducible rfl
  (try simp only[Act.put,pA,pB,pC])
  refine wpAnyH_done (by kernel_rfl) ?_ _
  all_goals
   go_wp2_with fail
   go_meet
   exact⟨rfl,HGp.out⟩
 case rest=>
  obtain⟨rfl,hg5⟩:=hcut;have hmx:(m:Int)+1≤cx:=by obtain⟨p0,c0,e0,h1,_⟩:=HX.out.ex;have e1:=(Value.slice.injEq _ _ _ _ _ _).mp e0;have:=HEM.out;omega
  have HSZ:Hid ((ofB E).size=m+1):=(show(ofB E).size=m+1 from by rw[zhc,HEM.out])
  have HG1:Hid (Calls Tryz.prog 15 #[.slice px (m+1) cx] wc fun e w'=>e = .returned (.tuple #[(.agg #[.int .u8 kind,.int .i64 node,.int .i64 zvw,.int .i64 zvx,.int .i64 zvy,.int .i64 zvz,.string key,.int .i64 code]:Value),.int .i64 0])∧wc.grownBy w' none):=(show Calls _ _ _ _ _ from Qv (HX.out.later (Nat.le_refl _) hg5) HEB.out (some ⟨kind,node,zvw,zvx,zvy,zvz,key,code⟩) HE0.out)
  have HC:=za hg5;obtain⟨d0,d1,d2,d3,d4,d5,d6,d7,hcx⟩:=jr H0.out HX.out hg5;clear hg5
  go_upto_region 11 with (go_at_call 15;refine HG1.out.mono ?_;rintro e w6 ⟨rfl,hg⟩;have HG6:=za (ze HC.out hg);clear hg)
  clear d0 d1 d2 d3 d4 d5 d6 d7 hcx HG1 HC;have HA6:=za (zc w6 (.cells #[.int .u8 kind,.int .i64 node,.int .i64 zvw,.int .i64 zvx,.int .i64 zvy,.int .i64 zvz,.string key,.int .i64 code] 24) none);have HB6:=za (heap_alloc_new w6 (.cells #[.int .u8 kind,.int .i64 node,.int .i64 zvw,.int .i64 zvx,.int .i64 zvy,.int .i64 zvz,.string key,.int .i64 code] 24));generalize w6.alloc (.cells #[.int .u8 kind,.int .i64 node,.int .i64 zvw,.int .i64 zvx,.int .i64 zvy,.int .i64 zvz,.string key,.int .i64 code] 24)=w6a at *;have HG2:Hid (Calls Tryz.prog 15 #[.slice px m cx] w6a fun e w'=>e = .returned (.tuple #[.agg #[.int .u8 0,.int .i64 0,.int .i64 0,.int .i64 0,.int .i64 0,.int .i64 0,.string ⟨#[]⟩,.int .i64 0],.int .i64 2])∧w6a.grownBy w' none):=(show Calls _ _ _ _ _ from by
   have h1:=HX.out.later (Nat.le_refl _) (ze HG6.out HA6.out);have h2:=uy.front (p:=px) (cap:=cx) (l:=E) (by rw[HEM.out];exact h1) (n:=m) (by rw[HEM.out];omega)
   refine Qv h2 (HEB.out.take m) none ?_;have:=HE1.out;rw[List.dropLast_eq_take,HEM.out] at this
   exact this)
  go_upto_region 12 with (go_at_call 15;refine HG2.out.mono ?_;rintro e w7 ⟨rfl,hg⟩;have HG7:=za hg;clear hg)
  clear HG2;have HA7:=za (zc w7 (.cells #[.int .u8 0,.int .i64 0,.int .i64 0,.int .i64 0,.int .i64 0,.int .i64 0,.string ⟨#[]⟩,.int .i64 0] 24) none);generalize w7.alloc (.cells #[.int .u8 0,.int .i64 0,.int .i64 0,.int .i64 0,.int .i64 0,.int .i64 0,.string ⟨#[]⟩,.int .i64 0] 24)=w7a at *;have hcx:=ys (HX.out.later (Nat.le_refl _) (ze HG6.out (ze HA6.out (ze HG7.out HA7.out))));have kc:=fun w=>Lib.run_convert_string_bytes (P:=Tryz.prog) w 9 25 5 (ofB E) (u:=.string) Tryz.underlying9 Tryz.underlying25 Tryz.underlying5
  go_upto_region 13 with (first
   | (at_builtin;refine zdz w7a (ofB E) (by rw[HSZ.out];omega) 0 rfl _ _ rfl rfl _ (Lib.bytesWorld_size _ _ _) rfl ?_;intro p8 c8 w8 hg hB;have HG8:=za hg;have HB8:=za hB;clear hg hB kc hcx)
   | (go_at_call 15;refine(Qv HB8.out (by rw[zbo HEB.out];exact HEB.out.app (fun b hb=>by simp at hb;omega)) none (by rw[zbo HEB.out];exact HE2.out)).mono ?_;rintro e w9 ⟨rfl,hg⟩;simp only[getV,getE,zcj];have HG9:=za hg;clear hg))
  have HA9:=za (zc w9 (.cells #[.int .u8 0,.int .i64 0,.int .i64 0,.int .i64 0,.int .i64 0,.int .i64 0,.string ⟨#[]⟩,.int .i64 0] 24) none);generalize w9.alloc (.cells #[.int .u8 0,.int .i64 0,.int .i64 0,.int .i64 0,.int .i64 0,.int .i64 0,.string ⟨#[]⟩,.int .i64 0] 24)=w9a at *;have HW9:=za (show w6a.grownBy w9a none from ze HG7.out (ze HA7.out (ze HG8.out (ze HG9.out HA9.out))))
  have HW9':=za (show w3.grownBy w9a none from ze HG6.out (ze HA6.out HW9.out))
  have B6:=(HW9.out.block w6.heap.size (Array.getElem?_eq_some_iff.1 HB6.out).1 (by simp)).trans HB6.out
  obtain⟨d0,d1,d2,d3,d4,d5,d6,d7,hcx⟩:=jr H0.out HX.out HW9'.out;have q0:w9a.cell? ⟨w6.heap.size,0,none⟩=some (.int .u8 kind):=(zh B6 0).trans rfl;have q1:w9a.cell? ⟨w6.heap.size,1,none⟩=some (.int .i64 node):=(zh B6 1).trans rfl;have q2:w9a.cell? ⟨w6.heap.size,2,none⟩=some (.int .i64 zvw):=(zh B6 2).trans rfl;have q3:w9a.cell? ⟨w6.heap.size,3,none⟩=some (.int .i64 zvx):=(zh B6 3).trans rfl;have q4:w9a.cell? ⟨w6.heap.size,4,none⟩=some (.int .i64 zvy):=(zh B6 4).trans rfl;have q5:w9a.cell? ⟨w6.heap.size,5,none⟩=some (.int .i64 zvz):=(zh B6 5).trans rfl;have q6:w9a.cell? ⟨w6.heap.size,6,none⟩=some (.string key):=(zh B6 6).trans rfl;have q7:w9a.cell? ⟨w6.heap.size,7,none⟩=some (.int .i64 code):=(zh B6 7).trans rfl;clear B6 hcx;have hnq:∀w,(binOp .neq 24 (.agg #[.int .u8 kind,.int .i64 node,.int .i64 zvw,.int .i64 zvx,.int .i64 zvy,.int .i64 zvz,.string key,.int .i64 code]:Value) (.agg #[.int .u8 kind,.int .i64 node,.int .i64 zvw,.int .i64 zvx,.int .i64 zvy,.int .i64 zvz,.string key,.int .i64 code]:Value)).run Tryz.prog w = .ok (.bool false) w:=(fun w=>by have:=zqc ⟨kind,node,zvw,zvx,zvy,zvz,key,code⟩ ⟨kind,node,zvw,zvx,zvy,zvz,key,code⟩ w;simpa[zp] using this)
  go_upto_region 15 with fail
  clear d0 d1 d2 d3 d4 d5 d6 d7 q0 q1 q2 q3 q4 q5 q6 q7 hnq;have HWB:=za (show W.grownBy w9a none from ze (zc W _ none) (ze H0.out HW9'.out))
  go_upto_region 18 with (go_at_call 15;refine(Qv (HB.out.later (Nat.le_refl _) HWB.out) HBL.out (some ⟨dk,dn,dc,di,dr,dv,dy,do_⟩) HD.out).mono ?_;rintro e w10 ⟨rfl,hg⟩;simp only[getV,getE,zp];have HG10:=za (ze HWB.out hg);clear hg)
  go_upto_region 19 with (go_at_call 13;refine(HPD.out _).mono ?_;rintro e w11 ⟨zv,rfl,hrow,hg⟩;obtain⟨pz,cz,rfl⟩:=qs hrow;have HG11:=za (ze HG10.out (ze (zc _ _ none) hg));have HZ:=za (xq hrow);clear hrow hg)
  have hcz:=ys HZ.out;have hcb:=ys (HB.out.later (Nat.le_refl _) HG11.out)
  go_wp2_with (go_at_call 10;refine(HWK.out _).mono ?_;rintro e w12 ⟨rfl,hg⟩;have HG12:=za hg;clear hg)
  go_ret
  exact⟨rfl,ze HG11.out HG12.out⟩
set_option maxRecDepth 100000 in
theorem puts_yn (kind node zvw zvx zvy zvz code:Int) (key:ByteArray) (hm:ua ⟨kind,node,zvw,zvx,zvy,zvz,key,code⟩=true) (hk:key.size≤300) (pb:Option Addr) (cb:Nat) (l:List Int) (W:World) (hb:uy W.heap.size W (.slice pb l.length cb) l) (hl:BL l) (hl4:l.length≤400) (hd:jh l=none) :
  Calls Tryz.prog 3 #[(.agg #[.int .u8 kind,.int .i64 node,.int .i64 zvw,.int .i64 zvx,.int .i64 zvy,.int .i64 zvz,.string key,.int .i64 code]:Value),.slice pb l.length cb] W fun e w'=>e = .returned (.bool true)∧W.grownBy w' none:=by
 have HPL:Hid (∀W',Calls Tryz.prog 12 #[(.agg #[.int .u8 kind,.int .i64 node,.int .i64 zvw,.int .i64 zvx,.int .i64 zvy,.int .i64 zvz,.string key,.int .i64 code]:Value)] W' fun e w'=>e = .returned (.agg #[.int .u8 kind,.int .i64 node,.int .i64 zvw,.int .i64 zvx,.int .i64 zvy,.int .i64 zvz,.string key,.int .i64 code]:Value)∧W'.grownBy w' none):=(show ∀_,_ from fun W'=>Jr ⟨kind,node,zvw,zvx,zvy,zvz,key,code⟩ W')
 have HMY:Hid (∀W',Calls Tryz.prog 11 #[(.agg #[.int .u8 kind,.int .i64 node,.int .i64 zvw,.int .i64 zvx,.int .i64 zvy,.int .i64 zvz,.string key,.int .i64 code]:Value)] W' fun e w'=>e = .returned (.bool true)∧W'.grownBy w' none):=(show ∀_,_ from fun W'=>by have h:=zbl ⟨kind,node,zvw,zvx,zvy,zvz,key,code⟩ (by simp only;omega) W';rw[hm] at h;exact h)
 have HWK:=za qd;have HE0:=za (show jh (xm ⟨kind,node,zvw,zvx,zvy,zvz,key,code⟩)=some ⟨kind,node,zvw,zvx,zvy,zvz,key,code⟩ from zj7 hm)
 have HE1:=za (show jh (xm ⟨kind,node,zvw,zvx,zvy,zvz,key,code⟩).dropLast=none from zlq hm)
 have HE2:=za (show jh (xm ⟨kind,node,zvw,zvx,zvy,zvz,key,code⟩ ++ [0])=none from zgl hm 0)
 have HEB:=za (show BL (xm ⟨kind,node,zvw,zvx,zvy,zvz,key,code⟩) from zoh _)
 have HEL:Hid ((xm ⟨kind,node,zvw,zvx,zvy,zvz,key,code⟩).length≤200):=(show(xm ⟨kind,node,zvw,zvx,zvy,zvz,key,code⟩).length≤200 from zp1 hm)
 have HPU:Hid (∀W',Calls Tryz.prog 13 #[(.agg #[.int .u8 kind,.int .i64 node,.int .i64 zvw,.int .i64 zvx,.int .i64 zvy,.int .i64 zvz,.string key,.int .i64 code]:Value)] W' fun e w'=>∃v',e = .returned (.tuple #[v',.int .i64 0])∧w'.ownsRow W'.heap.size 5 1 v' (xm ⟨kind,node,zvw,zvx,zvy,zvz,key,code⟩).length (zu (xm ⟨kind,node,zvw,zvx,zvy,zvz,key,code⟩))∧W'.grownBy w' none):=(show ∀_,_ from fun W'=>zkw ⟨kind,node,zvw,zvx,zvy,zvz,key,code⟩ W' hm)
 have HRB:Hid (∀W',Calls Tryz.prog 14 #[(.agg #[.int .u8 kind,.int .i64 node,.int .i64 zvw,.int .i64 zvx,.int .i64 zvy,.int .i64 zvz,.string key,.int .i64 code]:Value)] W' fun e w'=>∃v,e = .returned v∧w'.ownsRow W'.heap.size 5 1 v (xm ⟨kind,node,zvw,zvx,zvy,zvz,key,code⟩).length (zu (xm ⟨kind,node,zvw,zvx,zvy,zvz,key,code⟩))∧W'.grownBy w' none):=(show ∀_,_ from fun W'=>zhg ⟨kind,node,zvw,zvx,zvy,zvz,key,code⟩ W' hm)
 have hne:=zoi ⟨kind,node,zvw,zvx,zvy,zvz,key,code⟩;generalize xm ⟨kind,node,zvw,zvx,zvy,zvz,key,code⟩=E at *;obtain⟨m,hEm⟩:∃m,E.length=m+1:=⟨E.length-1,by have:E.length≠0:=fun h=>hne (List.eq_nil_of_length_eq_zero h);omega⟩
 rw[hEm] at HPU HRB HEL;have HEM:=za hEm;have hm200:m≤200:=by have:=HEL.out;omega
 clear hne hEm;have HB:=za hb;have HBL:=za hl;have HD:=za hd;have hkey:(key.size:Int)≤300:=by omega
 have hn400:(l.length:Int)≤400:=by omega
 clear hm hb hl hd
 go_enter Tryz.func3,Tryz.ntmps3
 go_upto_region 5 with (first
  | (go_at_call 12;refine(HPL.out _).mono ?_;rintro e w1 ⟨rfl,hg⟩;have HGA:=za hg;clear hg)
  | (go_at_call 11;refine(HMY.out _).mono ?_;rintro e w2 ⟨rfl,hg⟩;have HGB:=za (ze HGA.out hg);clear hg;obtain⟨d0,d1,d2,d3,d4,d5,d6,d7⟩:=zd4 HGB.out)
  | (go_at_call 13;refine(HPU.out _).mono ?_;rintro e w3 ⟨xv,rfl,hrow,hg⟩;obtain⟨px,cx,rfl⟩:=qs hrow;have HX:=za (xq (l:=E) (by rw[HEM.out];exact hrow));have H0:=za (ze HGB.out hg);clear hrow hg))
 clear d0 d1 d2 d3 d4 d5 d6 d7;clear HGA HGB
 go_cut [64] (fun s wx=>s = .bool false∧w3.grownBy wx none)
 case first=>
  have kS:=jr H0.out HX.out (zd w3);have HGp:=za (zd w3);refine wp_region_held_drew (S:=fun w'=>w'.cell? ⟨W.heap.size,0,none⟩=some (.int .u8 kind)∧w'.cell? ⟨W.heap.size,1,none⟩=some (.int .i64 node)∧w'.cell? ⟨W.heap.size,2,none⟩=some (.int .i64 zvw)∧w'.cell? ⟨W.heap.size,3,none⟩=some (.int .i64 zvx)∧w'.cell? ⟨W.heap.size,4,none⟩=some (.int .i64 zvy)∧w'.cell? ⟨W.heap.size,5,none⟩=some (.int .i64 zvz)∧w'.cell? ⟨W.heap.size,6,none⟩=some (.string key)∧w'.cell? ⟨W.heap.size,7,none⟩=some (.int .i64 code)∧(convert 25 9 (.slice px (m+1) cx)).run Tryz.prog w' = .ok (.string (ofB E)) w') (by kernel_rfl) (jr H0.out HX.out (zf (zd w3))) (fun hHeld=>?_)
  refine tg 0 ?_ hHeld ?_ ?_ rfl (by kernel_rfl) rfl fun _ _ _ h=>h
  rotate_left
  ·intro w hSw;(try dsimp only at hSw);go_simp;try with_reducible rfl
  (try simp only[Act.put,pA,pB,pC])
  refine tg 1 ?_ hHeld ?_ ?_ rfl (by kernel_rfl) rfl fun _ _ _ h=>h
  rotate_left
  ·intro w hSw;(try dsimp only at hSw);go_simp;try with_reducible rfl
  (try simp only[Act.put,pA,pB,pC])
  refine tg 2 ?_ hHeld ?_ ?_ rfl (by kernel_rfl) rfl fun _ _ _ h=>h
  rotate_left
  ·intro w hSw;(try dsimp only at hSw);go_simp;try with_reducible rfl
  (try simp only[Act.put,pA,pB,pC])
  refine tg 3 ?_ hHeld ?_ ?_ rfl (by kernel_rfl) rfl fun _ _ _ h=>h
  rotate_left
  ·intro w hSw;(try dsimp only at hSw);go_simp;try with_reducible rfl
  (try simp only[Act.put,pA,pB,pC])
  refine tg 4 ?_ hHeld ?_ ?_ rfl (by kernel_rfl) rfl fun _ _ _ h=>h
  rotate_left
  ·intro w hSw;(try dsimp only at hSw);go_simp;try with_reducible rfl
  (try simp only[Act.put,pA,pB,pC])
  refine tg 5 ?_ hHeld ?_ ?_ rfl (by kernel_rfl) rfl fun _ _ _ h=>h
  rotate_left
  ·intro w hSw;(try dsimp only at hSw);go_simp;try with_reducible rfl
  (try simp only[Act.put,pA,pB,pC])
  refine tg 6 ?_ hHeld ?_ ?_ rfl (by kernel_rfl) rfl fun _ _ _ h=>h
  rotate_left
  ·intro w hSw;(try dsimp only at hSw);go_simp;try with_reducible rfl
  (try simp only[Act.put,pA,pB,pC])
  refine tg 7 ?_ hHeld ?_ ?_ rfl (by kernel_rfl) rfl fun _ _ _ h=>h
  rotate_left
  ·intro w hSw;(try dsimp only at hSw);go_simp;try with_reducible rfl
  (try simp only[Act.put,pA,pB,pC])
  refine tgn 8 hHeld ?_ rfl (by kernel_rfl) rfl fun _ _ _ h=>h
  (try simp only[Act.put,pA,pB,pC])
  refine tgn 9 hHeld ?_ rfl (by kernel_rfl) rfl fun _ _ _ h=>h
  (try simp only[Act.put,pA,pB,pC])
  refine tgn 10 hHeld ?_ rfl (by kernel_rfl) rfl fun _ _ _ h=>h
  (try simp only[Act.put,pA,pB,pC])
  refine tgn 11 hHeld ?_ rfl (by kernel_rfl) rfl fun _ _ _ h=>h
  (try simp only[Act.put,pA,pB,pC])
  refine tgn 12 hHeld ?_ rfl (by kernel_rfl) rfl fun _ _ _ h=>h
  (try simp only[Act.put,pA,pB,pC])
  refine tgn 13 hHeld ?_ rfl (by kernel_rfl) rfl fun _ _ _ h=>h
  (try simp only[Act.put,pA,pB,pC])
  refine tgn 14 hHeld ?_ rfl (by kernel_rfl) rfl fun _ _ _ h=>h
  (try simp only[Act.put,pA,pB,pC])
  refine tg 15 ?_ hHeld ?_ ?_ rfl (by kernel_rfl) rfl fun _ _ _ h=>h
  rotate_left
  ·intro w hSw;(try dsimp only at hSw);go_simp;try with_reducible rfl
  (try simp only[Act.put,pA,pB,pC])
  refine tg 16 ?_ hHeld ?_ ?_ rfl (by kernel_rfl) rfl fun _ _ _ h=>h
  rotate_left
  ·intro w hSw;(try dsimp only at hSw);go_simp;try with_reducible rfl
  (try simp only[Act.put,pA,pB,pC])
  refine tg 17 ?_ hHeld ?_ ?_ rfl (by kernel_rfl) rfl fun _ _ _ h=>h
  rotate_left
  ·intro w hSw;(try dsimp only at hSw);go_simp;try with_reducible rfl
  (try simp only[Act.put,pA,pB,pC])
  refine tg 18 ?_ hHeld ?_ ?_ rfl (by kernel_rfl) rfl fun _ _ _ h=>h
  rotate_left
  ·intro w hSw;(try dsimp only at hSw);go_simp;try with_reducible rfl
  (try simp only[Act.put,pA,pB,pC])
  refine tg 19 ?_ hHeld ?_ ?_ rfl (by kernel_rfl) rfl fun _ _ _ h=>h
  rotate_left
  ·intro w hSw;(try dsimp only at hSw);go_simp;try with_reducible rfl
  (try simp only[Act.put,pA,pB,pC])
  refine tg 20 ?_ hHeld ?_ ?_ rfl (by kernel_rfl) rfl fun _ _ _ h=>h
  rotate_left
  ·intro w hSw;(try dsimp only at hSw);go_simp;try with_reducible rfl
  (try simp only[Act.put,pA,pB,pC])
  refine tg 21 ?_ hHeld ?_ ?_ rfl (by kernel_rfl) rfl fun _ _ _ h=>h
  rotate_left
  ·intro w hSw;(try dsimp only at hSw);go_simp;try with_reducible rfl
  (try simp only[Act.put,pA,pB,pC])
  refine tg 22 ?_ hHeld ?_ ?_ rfl (by kernel_rfl) rfl fun _ _ _ h=>h
  rotate_left
  ·intro w hSw;(try dsimp only at hSw);go_simp;try with_reducible rfl
  (try simp only[Act.put,pA,pB,pC])
  refine rdy 23 (fun K hK=>?_) rfl (by kernel_rfl)
  go_simp
  refine(HPL.out _).mono ?_;rintro e w4 ⟨rfl,hg⟩;replace HGp:=za (ze (ze HGp.out (by repeat (first|exact zd _|refine zg ?_ _|refine zf ?_))) hg)
  clear hg hHeld
  go_wp2_with fail
  refine hK.out _ _ (jr H0.out HX.out HGp.out) (fun hHeld=>?_)
  clear hK K
  (try simp only[Act.put,pA,pB,pC])
  refine rdy 24 (fun K hK=>?_) rfl (by kernel_rfl)
  go_simp
  refine(HRB.out _).mono ?_;rintro e w5 ⟨yv,rfl,hrow,hg⟩;obtain⟨py,cy,rfl⟩:=qs hrow;have hcy:=ys (xq (l:=E) (by rw[HEM.out];exact hrow))
  replace HGp:=za (ze (ze HGp.out (by repeat (first|exact zd _|refine zg ?_ _|refine zf ?_))) hg)
  clear hrow hg hHeld
  go_wp2_with fail
  refine hK.out _ _ (jr H0.out HX.out HGp.out) (fun hHeld=>?_)
  clear hK K
  (try simp only[Act.put,pA,pB,pC])
  refine rdy 25 (fun K hK=>?_) rfl (by kernel_rfl)
  go_simp
  refine hK.out _ _ (jr H0.out HX.out HGp.out) (fun hHeld=>?_)
  clear hK K
  (try simp only[Act.put,pA,pB,pC])
  refine tg 26 ?_ hHeld ?_ ?_ rfl (by kernel_rfl) rfl fun _ _ _ h=>h
  rotate_left
  ·intro w hSw;(try dsimp only at hSw);go_simp;try with_reducible rfl
  (try simp only[Act.put,pA,pB,pC])
  refine tg 27 ?_ hHeld ?_ ?_ rfl (by kernel_rfl) rfl fun _ _ _ h=>h
  rotate_left
  ·intro w hSw;(try dsimp only at hSw);go_simp;try with_reducible rfl
  (try simp only[Act.put,pA,pB,pC])
  refine tg 28 ?_ hHeld ?_ ?_ rfl (by kernel_rfl) rfl fun _ _ _ h=>h
  rotate_left
  ·intro w hSw;(try dsimp only at hSw);go_simp;try with_reducible rfl
  (try simp only[Act.put,pA,pB,pC])
  refine wpAnyH_done (by kernel_rfl) ?_ _
  all_goals
   go_wp2_with fail
   go_meet
   exact⟨rfl,HGp.out⟩
 case rest=>
  obtain⟨rfl,hg5⟩:=hcut;have hmx:(m:Int)+1≤cx:=by obtain⟨p0,c0,e0,h1,_⟩:=HX.out.ex;have e1:=(Value.slice.injEq _ _ _ _ _ _).mp e0;have:=HEM.out;omega
  have HSZ:Hid ((ofB E).size=m+1):=(show(ofB E).size=m+1 from by rw[zhc,HEM.out])
  have HG1:Hid (Calls Tryz.prog 15 #[.slice px (m+1) cx] wc fun e w'=>e = .returned (.tuple #[(.agg #[.int .u8 kind,.int .i64 node,.int .i64 zvw,.int .i64 zvx,.int .i64 zvy,.int .i64 zvz,.string key,.int .i64 code]:Value),.int .i64 0])∧wc.grownBy w' none):=(show Calls _ _ _ _ _ from Qv (HX.out.later (Nat.le_refl _) hg5) HEB.out (some ⟨kind,node,zvw,zvx,zvy,zvz,key,code⟩) HE0.out)
  have HC:=za hg5;obtain⟨d0,d1,d2,d3,d4,d5,d6,d7,hcx⟩:=jr H0.out HX.out hg5;clear hg5
  go_upto_region 11 with (go_at_call 15;refine HG1.out.mono ?_;rintro e w6 ⟨rfl,hg⟩;have HG6:=za (ze HC.out hg);clear hg)
  clear d0 d1 d2 d3 d4 d5 d6 d7 hcx HG1 HC;have HA6:=za (zc w6 (.cells #[.int .u8 kind,.int .i64 node,.int .i64 zvw,.int .i64 zvx,.int .i64 zvy,.int .i64 zvz,.string key,.int .i64 code] 24) none);have HB6:=za (heap_alloc_new w6 (.cells #[.int .u8 kind,.int .i64 node,.int .i64 zvw,.int .i64 zvx,.int .i64 zvy,.int .i64 zvz,.string key,.int .i64 code] 24));generalize w6.alloc (.cells #[.int .u8 kind,.int .i64 node,.int .i64 zvw,.int .i64 zvx,.int .i64 zvy,.int .i64 zvz,.string key,.int .i64 code] 24)=w6a at *;have HG2:Hid (Calls Tryz.prog 15 #[.slice px m cx] w6a fun e w'=>e = .returned (.tuple #[.agg #[.int .u8 0,.int .i64 0,.int .i64 0,.int .i64 0,.int .i64 0,.int .i64 0,.string ⟨#[]⟩,.int .i64 0],.int .i64 2])∧w6a.grownBy w' none):=(show Calls _ _ _ _ _ from by
   have h1:=HX.out.later (Nat.le_refl _) (ze HG6.out HA6.out);have h2:=uy.front (p:=px) (cap:=cx) (l:=E) (by rw[HEM.out];exact h1) (n:=m) (by rw[HEM.out];omega)
   refine Qv h2 (HEB.out.take m) none ?_;have:=HE1.out;rw[List.dropLast_eq_take,HEM.out] at this
   exact this)
  go_upto_region 12 with (go_at_call 15;refine HG2.out.mono ?_;rintro e w7 ⟨rfl,hg⟩;have HG7:=za hg;clear hg)
  clear HG2;have HA7:=za (zc w7 (.cells #[.int .u8 0,.int .i64 0,.int .i64 0,.int .i64 0,.int .i64 0,.int .i64 0,.string ⟨#[]⟩,.int .i64 0] 24) none);generalize w7.alloc (.cells #[.int .u8 0,.int .i64 0,.int .i64 0,.int .i64 0,.int .i64 0,.int .i64 0,.string ⟨#[]⟩,.int .i64 0] 24)=w7a at *;have hcx:=ys (HX.out.later (Nat.le_refl _) (ze HG6.out (ze HA6.out (ze HG7.out HA7.out))));have kc:=fun w=>Lib.run_convert_string_bytes (P:=Tryz.prog) w 9 25 5 (ofB E) (u:=.string) Tryz.underlying9 Tryz.underlying25 Tryz.underlying5
  go_upto_region 13 with (first
   | (at_builtin;refine zdz w7a (ofB E) (by rw[HSZ.out];omega) 0 rfl _ _ rfl rfl _ (Lib.bytesWorld_size _ _ _) rfl ?_;intro p8 c8 w8 hg hB;have HG8:=za hg;have HB8:=za hB;clear hg hB kc hcx)
   | (go_at_call 15;refine(Qv HB8.out (by rw[zbo HEB.out];exact HEB.out.app (fun b hb=>by simp at hb;omega)) none (by rw[zbo HEB.out];exact HE2.out)).mono ?_;rintro e w9 ⟨rfl,hg⟩;simp only[getV,getE,zcj];have HG9:=za hg;clear hg))
  have HA9:=za (zc w9 (.cells #[.int .u8 0,.int .i64 0,.int .i64 0,.int .i64 0,.int .i64 0,.int .i64 0,.string ⟨#[]⟩,.int .i64 0] 24) none);generalize w9.alloc (.cells #[.int .u8 0,.int .i64 0,.int .i64 0,.int .i64 0,.int .i64 0,.int .i64 0,.string ⟨#[]⟩,.int .i64 0] 24)=w9a at *;have HW9:=za (show w6a.grownBy w9a none from ze HG7.out (ze HA7.out (ze HG8.out (ze HG9.out HA9.out))))
  have HW9':=za (show w3.grownBy w9a none from ze HG6.out (ze HA6.out HW9.out))
  have B6:=(HW9.out.block w6.heap.size (Array.getElem?_eq_some_iff.1 HB6.out).1 (by simp)).trans HB6.out
  obtain⟨d0,d1,d2,d3,d4,d5,d6,d7,hcx⟩:=jr H0.out HX.out HW9'.out;have q0:w9a.cell? ⟨w6.heap.size,0,none⟩=some (.int .u8 kind):=(zh B6 0).trans rfl;have q1:w9a.cell? ⟨w6.heap.size,1,none⟩=some (.int .i64 node):=(zh B6 1).trans rfl;have q2:w9a.cell? ⟨w6.heap.size,2,none⟩=some (.int .i64 zvw):=(zh B6 2).trans rfl;have q3:w9a.cell? ⟨w6.heap.size,3,none⟩=some (.int .i64 zvx):=(zh B6 3).trans rfl;have q4:w9a.cell? ⟨w6.heap.size,4,none⟩=some (.int .i64 zvy):=(zh B6 4).trans rfl;have q5:w9a.cell? ⟨w6.heap.size,5,none⟩=some (.int .i64 zvz):=(zh B6 5).trans rfl;have q6:w9a.cell? ⟨w6.heap.size,6,none⟩=some (.string key):=(zh B6 6).trans rfl;have q7:w9a.cell? ⟨w6.heap.size,7,none⟩=some (.int .i64 code):=(zh B6 7).trans rfl;clear B6 hcx;have hnq:∀w,(binOp .neq 24 (.agg #[.int .u8 kind,.int .i64 node,.int .i64 zvw,.int .i64 zvx,.int .i64 zvy,.int .i64 zvz,.string key,.int .i64 code]:Value) (.agg #[.int .u8 kind,.int .i64 node,.int .i64 zvw,.int .i64 zvx,.int .i64 zvy,.int .i64 zvz,.string key,.int .i64 code]:Value)).run Tryz.prog w = .ok (.bool false) w:=(fun w=>by have:=zqc ⟨kind,node,zvw,zvx,zvy,zvz,key,code⟩ ⟨kind,node,zvw,zvx,zvy,zvz,key,code⟩ w;simpa[zp] using this)
  go_upto_region 15 with fail
  clear d0 d1 d2 d3 d4 d5 d6 d7 q0 q1 q2 q3 q4 q5 q6 q7 hnq;have HWB:=za (show W.grownBy w9a none from ze (zc W _ none) (ze H0.out HW9'.out))
  go_upto_region 17 with (go_at_call 15;refine(Qv (HB.out.later (Nat.le_refl _) HWB.out) HBL.out none HD.out).mono ?_;rintro e w10 ⟨rfl,hg⟩;simp only[getV,getE,zcj];have HG10:=za (ze HWB.out hg);clear hg)
  have heq:∀w,(binOp .eql 24 (.agg #[.int .u8 0,.int .i64 0,.int .i64 0,.int .i64 0,.int .i64 0,.int .i64 0,.string ⟨#[]⟩,.int .i64 0]) (.agg #[.int .u8 0,.int .i64 0,.int .i64 0,.int .i64 0,.int .i64 0,.int .i64 0,.string ⟨#[]⟩,.int .i64 0])).run Tryz.prog w = .ok (.bool true) w:=(fun w=>by have:=zkb ⟨0,0,0,0,0,0,⟨#[]⟩,0⟩ ⟨0,0,0,0,0,0,⟨#[]⟩,0⟩ w;simpa[zp] using this)
  go_wp2_with (go_at_call 10;refine(HWK.out _).mono ?_;rintro e w12 ⟨rfl,hg⟩;have HG12:=za hg;clear hg)
  go_ret
  exact⟨rfl,ze HG10.out (ze (zc _ _ none) HG12.out)⟩
set_option maxRecDepth 100000 in
theorem puts_ns (kind node zvw zvx zvy zvz code:Int) (key:ByteArray) (hm:ua ⟨kind,node,zvw,zvx,zvy,zvz,key,code⟩=false) (hk:key.size≤300) (pb:Option Addr) (cb:Nat) (l:List Int) (W:World) (hb:uy W.heap.size W (.slice pb l.length cb) l) (hl:BL l) (hl4:l.length≤400) (dk dn dc di dr dv do_:Int) (dy:ByteArray) (hd:jh l=some ⟨dk,dn,dc,di,dr,dv,dy,do_⟩) :
  Calls Tryz.prog 3 #[(.agg #[.int .u8 kind,.int .i64 node,.int .i64 zvw,.int .i64 zvx,.int .i64 zvy,.int .i64 zvz,.string key,.int .i64 code]:Value),.slice pb l.length cb] W fun e w'=>e = .returned (.bool true)∧W.grownBy w' none:=by
 have HPL:Hid (∀W',Calls Tryz.prog 12 #[(.agg #[.int .u8 kind,.int .i64 node,.int .i64 zvw,.int .i64 zvx,.int .i64 zvy,.int .i64 zvz,.string key,.int .i64 code]:Value)] W' fun e w'=>e = .returned (.agg #[.int .u8 kind,.int .i64 node,.int .i64 zvw,.int .i64 zvx,.int .i64 zvy,.int .i64 zvz,.string key,.int .i64 code]:Value)∧W'.grownBy w' none):=(show ∀_,_ from fun W'=>Jr ⟨kind,node,zvw,zvx,zvy,zvz,key,code⟩ W')
 have HMY:Hid (∀W',Calls Tryz.prog 11 #[(.agg #[.int .u8 kind,.int .i64 node,.int .i64 zvw,.int .i64 zvx,.int .i64 zvy,.int .i64 zvz,.string key,.int .i64 code]:Value)] W' fun e w'=>e = .returned (.bool false)∧W'.grownBy w' none):=(show ∀_,_ from fun W'=>by have h:=zbl ⟨kind,node,zvw,zvx,zvy,zvz,key,code⟩ (by simp only;omega) W';rw[hm] at h;exact h)
 have HWK:=za qd;have HPU:Hid (∀W',Calls Tryz.prog 13 #[(.agg #[.int .u8 kind,.int .i64 node,.int .i64 zvw,.int .i64 zvx,.int .i64 zvy,.int .i64 zvz,.string key,.int .i64 code]:Value)] W' fun e w'=>e = .returned (.tuple #[.slice none 0 0,.int .i64 2])∧W'.grownBy w' none):=(show ∀_,_ from fun W'=>zqh ⟨kind,node,zvw,zvx,zvy,zvz,key,code⟩ (by simp only;omega) W' hm)
 have HDM:Hid (ua ⟨dk,dn,dc,di,dr,dv,dy,do_⟩=true∧xm ⟨dk,dn,dc,di,dr,dv,dy,do_⟩=l):=(show _∧_ from zgm hl hd)
 have HPD:Hid (∀W',Calls Tryz.prog 13 #[(.agg #[.int .u8 dk,.int .i64 dn,.int .i64 dc,.int .i64 di,.int .i64 dr,.int .i64 dv,.string dy,.int .i64 do_]:Value)] W' fun e w'=>∃v',e = .returned (.tuple #[v',.int .i64 0])∧w'.ownsRow W'.heap.size 5 1 v' l.length (zu l)∧W'.grownBy w' none):=(show ∀_,_ from fun W'=>by have h:=zkw ⟨dk,dn,dc,di,dr,dv,dy,do_⟩ W' HDM.out.1;unfold Xi at h;rw[HDM.out.2] at h;exact h)
 clear HDM;have HB:=za hb;have HBL:=za hl;have HD:=za hd;have hkey:(key.size:Int)≤300:=by omega
 have hn400:(l.length:Int)≤400:=by omega
 clear hm hb hl hd
 go_enter Tryz.func3,Tryz.ntmps3
 go_upto_region 5 with (first
  | (go_at_call 12;refine(HPL.out _).mono ?_;rintro e w1 ⟨rfl,hg⟩;have HGA:=za hg;clear hg)
  | (go_at_call 11;refine(HMY.out _).mono ?_;rintro e w2 ⟨rfl,hg⟩;have HGB:=za (ze HGA.out hg);clear hg;obtain⟨d0,d1,d2,d3,d4,d5,d6,d7⟩:=zd4 HGB.out)
  | (go_at_call 13;refine(HPU.out _).mono ?_;rintro e w3 ⟨rfl,hg⟩;have H0:=za (ze HGB.out hg);clear hg))
 clear d0 d1 d2 d3 d4 d5 d6 d7;clear HGA HGB
 go_quiet (fail)
 go_upto_region 15 with fail
 have HWB:=za (show W.grownBy (w3.drewN nq) none from ze (zc W _ none) (ze H0.out ⟨rfl,rfl,rfl,Nat.le_refl _,fun _ _ _=>rfl⟩))
 generalize w3.drewN nq=w9a at *
 go_upto_region 18 with (go_at_call 15;refine(Qv (HB.out.later (Nat.le_refl _) HWB.out) HBL.out (some ⟨dk,dn,dc,di,dr,dv,dy,do_⟩) HD.out).mono ?_;rintro e w10 ⟨rfl,hg⟩;simp only[getV,getE,zp];have HG10:=za (ze HWB.out hg);clear hg)
 go_upto_region 19 with (go_at_call 13;refine(HPD.out _).mono ?_;rintro e w11 ⟨zv,rfl,hrow,hg⟩;obtain⟨pz,cz,rfl⟩:=qs hrow;have HG11:=za (ze HG10.out (ze (zc _ _ none) hg));have HZ:=za (xq hrow);clear hrow hg)
 have hcz:=ys HZ.out;have hcb:=ys (HB.out.later (Nat.le_refl _) HG11.out)
 go_wp2_with (go_at_call 10;refine(HWK.out _).mono ?_;rintro e w12 ⟨rfl,hg⟩;have HG12:=za hg;clear hg)
 go_ret
 exact⟨rfl,ze HG11.out HG12.out⟩
set_option maxRecDepth 100000 in
theorem puts_nn (kind node zvw zvx zvy zvz code:Int) (key:ByteArray) (hm:ua ⟨kind,node,zvw,zvx,zvy,zvz,key,code⟩=false) (hk:key.size≤300) (pb:Option Addr) (cb:Nat) (l:List Int) (W:World) (hb:uy W.heap.size W (.slice pb l.length cb) l) (hl:BL l) (hl4:l.length≤400) (hd:jh l=none) :
  Calls Tryz.prog 3 #[(.agg #[.int .u8 kind,.int .i64 node,.int .i64 zvw,.int .i64 zvx,.int .i64 zvy,.int .i64 zvz,.string key,.int .i64 code]:Value),.slice pb l.length cb] W fun e w'=>e = .returned (.bool true)∧W.grownBy w' none:=by
 have HPL:Hid (∀W',Calls Tryz.prog 12 #[(.agg #[.int .u8 kind,.int .i64 node,.int .i64 zvw,.int .i64 zvx,.int .i64 zvy,.int .i64 zvz,.string key,.int .i64 code]:Value)] W' fun e w'=>e = .returned (.agg #[.int .u8 kind,.int .i64 node,.int .i64 zvw,.int .i64 zvx,.int .i64 zvy,.int .i64 zvz,.string key,.int .i64 code]:Value)∧W'.grownBy w' none):=(show ∀_,_ from fun W'=>Jr ⟨kind,node,zvw,zvx,zvy,zvz,key,code⟩ W')
 have HMY:Hid (∀W',Calls Tryz.prog 11 #[(.agg #[.int .u8 kind,.int .i64 node,.int .i64 zvw,.int .i64 zvx,.int .i64 zvy,.int .i64 zvz,.string key,.int .i64 code]:Value)] W' fun e w'=>e = .returned (.bool false)∧W'.grownBy w' none):=(show ∀_,_ from fun W'=>by have h:=zbl ⟨kind,node,zvw,zvx,zvy,zvz,key,code⟩ (by simp only;omega) W';rw[hm] at h;exact h)
 have HWK:=za qd;have HPU:Hid (∀W',Calls Tryz.prog 13 #[(.agg #[.int .u8 kind,.int .i64 node,.int .i64 zvw,.int .i64 zvx,.int .i64 zvy,.int .i64 zvz,.string key,.int .i64 code]:Value)] W' fun e w'=>e = .returned (.tuple #[.slice none 0 0,.int .i64 2])∧W'.grownBy w' none):=(show ∀_,_ from fun W'=>zqh ⟨kind,node,zvw,zvx,zvy,zvz,key,code⟩ (by simp only;omega) W' hm)
 have HB:=za hb;have HBL:=za hl;have HD:=za hd;have hkey:(key.size:Int)≤300:=by omega
 have hn400:(l.length:Int)≤400:=by omega
 clear hm hb hl hd
 go_enter Tryz.func3,Tryz.ntmps3
 go_upto_region 5 with (first
  | (go_at_call 12;refine(HPL.out _).mono ?_;rintro e w1 ⟨rfl,hg⟩;have HGA:=za hg;clear hg)
  | (go_at_call 11;refine(HMY.out _).mono ?_;rintro e w2 ⟨rfl,hg⟩;have HGB:=za (ze HGA.out hg);clear hg;obtain⟨d0,d1,d2,d3,d4,d5,d6,d7⟩:=zd4 HGB.out)
  | (go_at_call 13;refine(HPU.out _).mono ?_;rintro e w3 ⟨rfl,hg⟩;have H0:=za (ze HGB.out hg);clear hg))
 clear d0 d1 d2 d3 d4 d5 d6 d7;clear HGA HGB
 go_quiet (fail)
 go_upto_region 15 with fail
 have HWB:=za (show W.grownBy (w3.drewN nq) none from ze (zc W _ none) (ze H0.out ⟨rfl,rfl,rfl,Nat.le_refl _,fun _ _ _=>rfl⟩))
 generalize w3.drewN nq=w9a at *
 go_upto_region 17 with (go_at_call 15;refine(Qv (HB.out.later (Nat.le_refl _) HWB.out) HBL.out none HD.out).mono ?_;rintro e w10 ⟨rfl,hg⟩;simp only[getV,getE,zcj];have HG10:=za (ze HWB.out hg);clear hg)
 have heq:∀w,(binOp .eql 24 (.agg #[.int .u8 0,.int .i64 0,.int .i64 0,.int .i64 0,.int .i64 0,.int .i64 0,.string ⟨#[]⟩,.int .i64 0]) (.agg #[.int .u8 0,.int .i64 0,.int .i64 0,.int .i64 0,.int .i64 0,.int .i64 0,.string ⟨#[]⟩,.int .i64 0])).run Tryz.prog w = .ok (.bool true) w:=(fun w=>by have:=zkb ⟨0,0,0,0,0,0,⟨#[]⟩,0⟩ ⟨0,0,0,0,0,0,⟨#[]⟩,0⟩ w;simpa[zp] using this)
 go_wp2_with (go_at_call 10;refine(HWK.out _).mono ?_;rintro e w12 ⟨rfl,hg⟩;have HG12:=za hg;clear hg)
 go_ret
 exact⟨rfl,ze HG10.out (ze (zc _ _ none) HG12.out)⟩
set_option maxRecDepth 100000 in
theorem zun (kind node zvw zvx zvy zvz code:Int) (key:ByteArray) (hk:(key.size:Int)≤9223372036854775807) (pb:Option Addr) (nb cb:Nat) (W:World) (hnb:nb≤9223372036854775807) (hbig:300<key.size∨400<nb) :
  Calls Tryz.prog 3 #[(.agg #[.int .u8 kind,.int .i64 node,.int .i64 zvw,.int .i64 zvx,.int .i64 zvy,.int .i64 zvz,.string key,.int .i64 code]:Value),.slice pb nb cb] W fun e w'=>e = .returned (.bool true)∧W.grownBy w' none:=by
 have HWK:=za qd;have hnb':(nb:Int)≤9223372036854775807:=by omega
 by_cases h3:300<key.size
 ·have h3':(300:Int)<key.size:=by omega
  clear hbig
  go_enter Tryz.func3,Tryz.ntmps3
  go_wp2_with (go_at_call 10;refine(HWK.out _).mono ?_;rintro e w12 ⟨rfl,hg⟩;have HG12:=za hg;clear hg)
  go_ret
  exact⟨rfl,ze (zc _ _ none) HG12.out⟩
 ·have h3':(key.size:Int)≤300:=by omega
  have h4:(400:Int)<nb:=by omega
  clear hbig h3
  go_enter Tryz.func3,Tryz.ntmps3
  go_wp2_with (go_at_call 10;refine(HWK.out _).mono ?_;rintro e w12 ⟨rfl,hg⟩;have HG12:=za hg;clear hg)
  go_ret
  exact⟨rfl,ze (zc _ _ none) HG12.out⟩
theorem zm5 (kind node zvw zvx zvy zvz code:Int) (key:ByteArray) (hk:(key.size:Int)≤9223372036854775807) (pb:Option Addr) (cb:Nat) (l:List Int) (W:World) (hb:uy W.heap.size W (.slice pb l.length cb) l) (hl:BL l) (hnb:l.length≤9223372036854775807) :
  Calls Tryz.prog 3 #[(.agg #[.int .u8 kind,.int .i64 node,.int .i64 zvw,.int .i64 zvx,.int .i64 zvy,.int .i64 zvz,.string key,.int .i64 code]:Value),.slice pb l.length cb] W fun e w'=>e = .returned (.bool true)∧W.grownBy w' none:=by
 by_cases hbig:300<key.size∨400<l.length
 ·exact zun kind node zvw zvx zvy zvz code key hk pb l.length cb W hnb hbig
 ·cases hd:jh l with
  | none=>
   cases hm:ua ⟨kind,node,zvw,zvx,zvy,zvz,key,code⟩ with
   | true=>exact puts_yn kind node zvw zvx zvy zvz code key hm (by omega) pb cb l W hb hl (by omega) hd
   | false=>exact puts_nn kind node zvw zvx zvy zvz code key hm (by omega) pb cb l W hb hl (by omega) hd
  | some d=>
   obtain⟨dk,dn,dc,di,dr,dv,dy,do_⟩:=d
   cases hm:ua ⟨kind,node,zvw,zvx,zvy,zvz,key,code⟩ with
   | true=>exact puts_ys kind node zvw zvx zvy zvz code key hm (by omega) pb cb l W hb hl (by omega) dk dn dc di dr dv do_ dy hd
   | false=>exact puts_ns kind node zvw zvx zvy zvz code key hm (by omega) pb cb l W hb hl (by omega) dk dn dc di dr dv do_ dy hd
end Go.Proofs.YtjfelfjobeeenaaGreat
