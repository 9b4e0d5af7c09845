/- made of the law on what lacks: walked. Conditions: a row of commands in memory. DeficitEnds, plain: which tasks come next; what holds while they are done. Conditions: none. -/
import Derived.Test.YtjfelfjobeeenaaGreatF36
import Derived.Test.YtjfelfjobeeenaaGreatF32
set_option linter.unusedSimpArgs false
set_option linter.unusedVariables false
namespace Go.Proofs.YtjfelfjobeeenaaGreat
open Go.RowKit Go.Sf Go.Shelf
theorem Duo.rc0 {w0 W:World} {own:Nat→Prop} {tb rb:Nat} {L:Tab} {R:RTab} (h:Duo w0 own tb rb L R W):W.cell? ⟨rb,0,none⟩=some (.int .i64 R.N):=by
 obtain⟨q,h1,h2,h3⟩:=h.ex
 obtain⟨vL,vC,vV,vP,vH,h4⟩:=h2.mem
 exact h4.c0
theorem vals_len {n k j:Nat} {L:Tab} {R:RTab} (h:Both n k j L R):L.values.length≤j:=by
 have:=nodup_len (L.values.map (·.1)) (R.vals.map (·.1)) h.sim.s0.tvn fun x hx=>by
  obtain⟨p,hp,rfl⟩:=List.mem_map.1 hx
  obtain⟨v,hv⟩:=mget_some_iff.1 (show(mget R.vals p.1).isSome=true by rw[h.sim.s0.vals,mget_of_mem h.sim.s0.tvn hp];rfl)
  exact List.mem_map.2 ⟨(p.1,v),hv,rfl⟩
 simp at this
 have:=h.rb.lv
 omega
theorem both_md {n k j:Nat} {L:Tab} {R:RTab} (h:Both n k j L R) (hr:Rng L) (hc:Clean L):Md n k j L:=
 ⟨h.inv,hr,hc,by have:=h.sim.s0.next;have:=h.rb.x1;omega,by have:=h.sim.s0.offers;have:=h.rb.o1;omega,vals_len h⟩
theorem clean_new (N:Nat) (w:Int):Clean (newT N w 0).norm:=fun x _=>rfl
theorem Md.le {n k j j':Nat} {L:Tab} (h:Md n k j L) (hj:j≤j'):Md n k j' L:=⟨h.inv,h.rng,h.cl,by have:=h.nx;omega,by have:=h.of;omega,Nat.le_trans h.vl hj⟩
def MadeQ (w:World) (N K:Nat) (e:Ending) (w':World):Prop:=
 (e = .returned (.tuple #[.pointer none,.pointer none,.bool false])∧w.grownBy w' none)∨
 ∃tb rb L R,e = .returned (.tuple #[.pointer (some ⟨tb,0,none⟩),.pointer (some ⟨rb,0,none⟩),.bool true])∧Duo w (fun _=>False) tb rb L R w'∧Md N K 60 L∧R.N=N
def MadeQ2 (w:World) (N K:Nat) (e:Ending) (w':World):Prop:=
 (e = .returned (.tuple #[.pointer none,.pointer none,.bool false])∧w.grownBy w' none)∨
 ∃tb rb L R j,e = .returned (.tuple #[.pointer (some ⟨tb,0,none⟩),.pointer (some ⟨rb,0,none⟩),.bool true])∧Duo w (fun _=>False) tb rb L R w'∧Md N K 60 L∧R.N=N∧j≤60∧Both N K j L R
def MadeI (w:World) (N K tb rb j:Nat) (L:Tab) (R:RTab) (wr:World):Prop:=Duo w (fun _=>False) tb rb L R wr∧Both N K j L R∧Rng L∧Clean L
theorem eight {W:World} {g:Nat} {a0 a1 a2 a3 a4 a5 a6 a7:Value} {t:TypeId} (h:W.heap[g]? = some (.cells #[a0,a1,a2,a3,a4,a5,a6,a7] t (0,0))) :
  W.cell? ⟨g,0,none⟩=some a0∧W.cell? ⟨g,1,none⟩=some a1∧W.cell? ⟨g,2,none⟩=some a2∧W.cell? ⟨g,3,none⟩=some a3∧W.cell? ⟨g,4,none⟩=some a4∧W.cell? ⟨g,5,none⟩=some a5∧W.cell? ⟨g,6,none⟩=some a6∧W.cell? ⟨g,7,none⟩=some a7:=cmd8 h
set_option maxHeartbeats 16000000 in
set_option maxRecDepth 100000 in
theorem made2_any (a b:Nat) (ha:a≤255) (hb:b≤255) (v:Value) (l:List Cmd) (w:World) (h:CmdRow w w.heap.size v l) (N:Nat) (hN:N=1+a%8) :
  ∃K,Calls Tryz.prog 16 #[.int .u8 a,.int .u8 b,v] w (MadeQ2 w N K):=by
 obtain⟨k,hk⟩:∃k:Nat,k=1+b%8:=⟨_,rfl⟩
 have hN9:N≤8∧1≤N:=by omega
 have hk9:k≤8∧1≤k:=by omega
 have e1:1+(a:Int)%8=(N:Int):=by omega
 have e2:1+(b:Int)%8=(k:Int):=by omega
 have hcN:(N:Int)=clampN N:=by unfold clampN;split <;> (try split) <;> omega
 obtain⟨K,hK⟩:∃K:Nat,clampW N k=K:=⟨(clampW N k).toNat,by unfold clampW;split <;> (try split) <;> omega⟩
 have hK1:K≤13:=by unfold clampW at hK;split at hK <;> (try split at hK) <;> omega
 refine⟨K,?_⟩
 have HNW:Hid (∀W,w.grownBy W none→Calls Tryz.prog 30 #[.int .i64 N,.int .i64 k] W fun e w'=>∃tb,e = .returned (.pointer (some ⟨tb,0,none⟩))∧At (fun k=>w.heap.size≤k) w' tb (newT N k 0).norm∧W.grownBy w' none):=(fun W hg=>
  (new_at (bs:=fun k=>w.heap.size≤k) N k N hcN W (fun _ h=>Nat.le_trans hg.size h)).mono fun e w' ⟨tb,h1,h2,h3,h4⟩=>⟨tb,h1,h3,h4⟩)
 have HRW:Hid (∀W,Calls Tryz.prog 38 #[.int .i64 N,.int .i64 k] W fun e w'=>∃rb,e = .returned (.pointer (some ⟨rb,0,none⟩))∧RAt (fun k=>W.heap.size≤k) w' rb (rnew N (clampW N k))∧W.grownBy w' none):=(show ∀_,_ from fun W=>rnew_any N k N hcN W (fun k=>W.heap.size≤k) (fun _ h=>h))
 have HBO:Hid (Both N K 0 (newT N k 0).norm (rnew N (clampW N k))):=(show Both _ _ _ _ _ from ⟨inv_new N k K hK,sim_new N k,rnew_b N _⟩)
 have HRN:Hid (Rng (newT N k 0).norm∧Clean (newT N k 0).norm):=(show _∧_ from ⟨rng_new N k,clean_new N k⟩)
 obtain⟨p,cap,rfl,hlen2,hks,hrow⟩:=h
 have HROW:=Lib.hid hrow
 have HKS:=Lib.hid hks
 have HKB:Hid (K≤13∧N≤8):=(show _∧_ from ⟨hK1,hN9.1⟩)
 clear hrow hks hcN hK hK1 hN hk
 rcases Nat.lt_or_ge 60 l.length with h60|h60
 ·go_enter Tryz.func16,Tryz.ntmps16
  go_wp2
  go_ret3
  exact Or.inl ⟨rfl,grown_refl _⟩
 ·have HD:Hid (∀i c,i<l.length→l.getD i wkD=c→(c.key.size:Int)≤9223372036854775807):=(fun i c hi hc=>HKS.out c (by rw[←hc];simp only[List.getD_eq_getElem?_getD,List.getElem?_eq_getElem hi,Option.getD_some];exact List.getElem_mem hi))
  clear HKS
  generalize hm:l.length=m at *
  have HM:=Lib.hid hm
  clear hm
  go_enter Tryz.func16,Tryz.ntmps16
  go_wp2_with (first
   | (go_at_call 30;refine(HNW.out _ (grown_refl _)).mono ?_;rintro e w2 ⟨tb,rfl,hA,hg⟩;have HA:=Lib.hid hA;have HG2:=Lib.hid hg;clear hA hg)
   | (go_at_call 38;refine(HRW.out _).mono ?_;rintro e w3 ⟨rb,rfl,hA,hg⟩;have HRA:=Lib.hid hA;have HG3:=Lib.hid hg;clear hA hg))
  have H0:Hid (MadeI w N K tb rb 0 (newT N k 0).norm (rnew N (clampW N k)) w3):=(show _∧_ from ⟨duo_new HG2.out HA.out HRA.out HG3.out,HBO.out,HRN.out⟩)
  clear HA HG2 HNW HRA HG3 HRW HBO HRN e1 e2
  go_loopw [12] (fun i wr=>∃(j:Nat) (L:Tab) (R:RTab),j≤m∧i = .int .i64 j∧Hid (MadeI w N K tb rb j L R wr)) (fun i _=>m-(intOf i).toNat)
  case atStart=>exact⟨0,_,_,Nat.zero_le _,rfl,H0⟩
  case round=>
   clear H0
   obtain⟨j,L,R,hj,rfl,hI⟩:=hrel
   rcases Nat.lt_or_ge j m with hlt|hge
   ·rcases HROW.out with h0|⟨bk,off,rfl,hbk,hc⟩
    ·have:=HM.out;subst h0;simp at this;omega
    ·obtain⟨hduo,hboth,hrng,hcl⟩:=hI.out
     have hcell:=hc j hlt
     have hkey:=HD.out j _ hlt rfl
     generalize l.getD j wkD=c at *
     obtain⟨kind,node,client,inc,req,ver,key,code⟩:=c
     have c0:=hduo.base.cell (hcell 0 _ rfl) (by simp)
     have c1:=hduo.base.cell (hcell 1 _ rfl) (by simp)
     have c2:=hduo.base.cell (hcell 2 _ rfl) (by simp)
     have c3:=hduo.base.cell (hcell 3 _ rfl) (by simp)
     have c4:=hduo.base.cell (hcell 4 _ rfl) (by simp)
     have c5:=hduo.base.cell (hcell 5 _ rfl) (by simp)
     have c6:=hduo.base.cell (hcell 6 _ rfl) (by simp)
     have c7:=hduo.base.cell (hcell 7 _ rfl) (by simp)
     simp only[Nat.add_zero] at c0 c1 c2 c3 c4 c5 c6 c7
     have HDU:=Lib.hid hduo
     have HBT:=Lib.hid hboth
     have HRC:=Lib.hid (And.intro hrng hcl)
     clear hduo hboth hcell hc hrng hcl hI
     by_cases hk70:key.size≤70
     ·go_upto_region 12 with fail
      clear c0 c1 c2 c3 c4 c5 c6 c7
      have hB1:=World.alloc_heap_new wr (.cells #[.int .u8 kind,.int .i64 node,.int .i64 client,.int .i64 inc,.int .i64 req,.int .i64 ver,.string key,.int .i64 code] 24)
      have hG1:=World.grownBy_alloc wr (.cells #[.int .u8 kind,.int .i64 node,.int .i64 client,.int .i64 inc,.int .i64 req,.int .i64 ver,.string key,.int .i64 code] 24) none
      have hz1:(wr.alloc (.cells #[.int .u8 kind,.int .i64 node,.int .i64 client,.int .i64 inc,.int .i64 req,.int .i64 ver,.string key,.int .i64 code] 24)).heap.size=wr.heap.size+1:=by simp
      have hB2:=World.alloc_heap_new (wr.alloc (.cells #[.int .u8 kind,.int .i64 node,.int .i64 client,.int .i64 inc,.int .i64 req,.int .i64 ver,.string key,.int .i64 code] 24)) (.cells #[.int .u8 kind,.int .i64 node,.int .i64 client,.int .i64 inc,.int .i64 req,.int .i64 ver,.string key,.int .i64 code] 29)
      have hG2:=World.grownBy_alloc (wr.alloc (.cells #[.int .u8 kind,.int .i64 node,.int .i64 client,.int .i64 inc,.int .i64 req,.int .i64 ver,.string key,.int .i64 code] 24)) (.cells #[.int .u8 kind,.int .i64 node,.int .i64 client,.int .i64 inc,.int .i64 req,.int .i64 ver,.string key,.int .i64 code] 29) none
      rw[hz1] at hB2
      have hD1:=HDU.out.fresh hG1 wr.heap.size (Nat.le_refl _) (by simp)
      have hD2:=hD1.fresh hG2 (wr.heap.size+1) (by rw[hz1];exact Nat.le_refl _) (by simp)
      have hB1':=kept_block hB1 hG2
      obtain⟨own,hown⟩:∃o:Nat→Prop,o=fun k=>(False∨k=wr.heap.size)∨k=wr.heap.size+1:=⟨_,rfl⟩
      have hD3:Duo w own tb rb L R ((wr.alloc (.cells #[.int .u8 kind,.int .i64 node,.int .i64 client,.int .i64 inc,.int .i64 req,.int .i64 ver,.string key,.int .i64 code] 24)).alloc (.cells #[.int .u8 kind,.int .i64 node,.int .i64 client,.int .i64 inc,.int .i64 req,.int .i64 ver,.string key,.int .i64 code] 29)):=by rw[hown];exact hD2
      have ho1:own wr.heap.size:=by rw[hown];exact Or.inl (Or.inr rfl)
      have ho2:own (wr.heap.size+1):=by rw[hown];exact Or.inr rfl
      have HD3:=Lib.hid hD3
      have HB1:=Lib.hid hB1'
      have HB2:=Lib.hid hB2
      clear hB1 hB1' hG1 hz1 hB2 hG2 hD1 hD2 hD3 hown
      generalize (wr.alloc (.cells #[.int .u8 kind,.int .i64 node,.int .i64 client,.int .i64 inc,.int .i64 req,.int .i64 ver,.string key,.int .i64 code] 24)).alloc (.cells #[.int .u8 kind,.int .i64 node,.int .i64 client,.int .i64 inc,.int .i64 req,.int .i64 ver,.string key,.int .i64 code] 29)=wb at *
      generalize wr.heap.size=cb at *
      obtain⟨c,hcd⟩:∃c:Cmd,c=⟨kind,node,client,inc,req,ver,key,code⟩:=⟨_,rfl⟩
      have hcv:encCmd c = .agg #[.int .u8 kind,.int .i64 node,.int .i64 client,.int .i64 inc,.int .i64 req,.int .i64 ver,.string key,.int .i64 code]:=by rw[hcd];rfl
      have hcn:c.node=node:=by rw[hcd]
      have hkc:(c.key.size:Int)≤9223372036854775807:=by rw[hcd];exact hkey
      have hN:=HBT.out.sim.s0.N
      have hln:=HBT.out.inv.ln
      have hx1:=HBT.out.rb.x1
      have ho3:=HBT.out.rb.o1
      have hnx:=HBT.out.sim.s0.next
      have hof:=HBT.out.sim.s0.offers
      have hm60:m≤60:=h60
      have HDT:Hid (∀(W':World),Duo w own tb rb L R W'→Calls Tryz.prog 22 #[.pointer (some ⟨tb,0,none⟩),.agg #[.int .u8 kind,.int .i64 node,.int .i64 client,.int .i64 inc,.int .i64 req,.int .i64 ver,.string key,.int .i64 code]] W' fun e w'=>e = .returned (.int .i64 (if mayB c=true∧node<R.N then 0 else 2))∧Duo w own tb rb (actT L c) R w'∧Same own W' w'):=(show ∀(_:World),_→Calls _ _ _ _ _ from fun W' hp=>by
       have:=hp.doT HBT.out.inv (by have:=HKB.out;omega) (by omega) (by omega) c hkc
       rw[hcv,hcn,←hN] at this
       exact this)
      have HMY:Hid (∀W',Calls Tryz.prog 11 #[.agg #[.int .u8 kind,.int .i64 node,.int .i64 client,.int .i64 inc,.int .i64 req,.int .i64 ver,.string key,.int .i64 code]] W' fun e w'=>e = .returned (.bool (mayB c))∧W'.grownBy w' none):=(show ∀_,_ from fun W'=>by have:=rmay_any c hkc W';rw[hcv] at this;exact this)
      have HDR:Hid (mayB c=true→node<R.N→∀(W':World) (L':Tab),Duo w own tb rb L' R W'→Calls Tryz.prog 60 #[.pointer (some ⟨rb,0,none⟩),.agg #[.int .u8 kind,.int .i64 node,.int .i64 client,.int .i64 inc,.int .i64 req,.int .i64 ver,.string key,.int .i64 code]] W' fun e w'=>e = .returned (.tuple #[])∧Duo w own tb rb L' (rdo R c) w'∧Same own W' w'):=(show _→_→∀(_:World) (_:Tab),_→Calls _ _ _ _ _ from fun hm hlt W' L' hp=>by
       have hkd:=may_kind hm
       have hok:=HBT.out.rb.rok (by omega) HBT.out.inv HBT.out.sim (by have:=HKB.out;omega) (by have:=HKB.out;omega)
       have:=hp.doR hok c hkd.1 hkd.2.1 hkd.2.2 (by rw[hcn,←hok.nn];exact hlt)
       rw[hcv] at this
       exact this)
      have HNX:Hid (∀W',Duo w own tb rb (actT L c) (ractT R c) W'→MadeI w N K tb rb (j+1) (actT L c) (ractT R c) W'):=(show ∀W',_→MadeI _ _ _ _ _ _ _ _ _ from fun W' hd=>⟨hd.less (fun _ h=>h.elim),both_step HBT.out c,rng_act HBT.out.inv HRC.out.1 (by omega),act_clean HBT.out.inv HRC.out.2 c⟩)
      have HRA:Hid (ractT R c=if mayB c=true∧node<R.N then rdo R c else R):=(show _=_ from by unfold ractT;rw[hcn])
      clear hN hln hx1 ho3 hnx hof hcn hcv hkc hcd hkey HBT HRC HDU
      have r0:=HD3.out.rc0
      generalize hrn:R.N=RN at *
      have HRN:=Lib.hid hrn
      clear hrn
      obtain⟨d0,d1,d2,d3,d4,d5,d6,d7⟩:=eight HB1.out
      obtain⟨x0,x1,x2,x3,x4,x5,x6,x7⟩:=eight HB2.out
      by_cases hok:mayB c=true∧node<RN
      ·have HDT0:Hid (∀(W':World),Duo w own tb rb L R W'→Calls Tryz.prog 22 #[.pointer (some ⟨tb,0,none⟩),.agg #[.int .u8 kind,.int .i64 node,.int .i64 client,.int .i64 inc,.int .i64 req,.int .i64 ver,.string key,.int .i64 code]] W' fun e w'=>e = .returned (.int .i64 0)∧Duo w own tb rb (actT L c) R w'∧Same own W' w'):=(show ∀(_:World),_→Calls _ _ _ _ _ from fun W' hp=>by have:=HDT.out W' hp;rw[if_pos hok] at this;exact this)
       have HMY0:Hid (∀W',Calls Tryz.prog 11 #[.agg #[.int .u8 kind,.int .i64 node,.int .i64 client,.int .i64 inc,.int .i64 req,.int .i64 ver,.string key,.int .i64 code]] W' fun e w'=>e = .returned (.bool true)∧W'.grownBy w' none):=(show ∀_,_ from fun W'=>by have:=HMY.out W';rw[hok.1] at this;exact this)
       have HRA0:Hid (ractT R c=rdo R c):=(show _=_ from by rw[HRA.out,if_pos hok])
       have hlt2:node<RN:=hok.2
       have HOK:=Lib.hid hok
       clear hok HDT HMY HRA
       go_cut [81] (fun s wx=>s = .bool true∧Hid (Duo w own tb rb (actT L c) R wx∧wx.heap[cb+1]? = some (.cells #[.int .u8 kind,.int .i64 node,.int .i64 client,.int .i64 inc,.int .i64 req,.int .i64 ver,.string key,.int .i64 code] 29 (0,0))))
       case first=>
        go_region_held3 (fun w'=>w'.cell? ⟨cb,0,none⟩=some (.int .u8 kind)∧w'.cell? ⟨cb,1,none⟩=some (.int .i64 node)∧w'.cell? ⟨cb,2,none⟩=some (.int .i64 client)∧w'.cell? ⟨cb,3,none⟩=some (.int .i64 inc)∧w'.cell? ⟨cb,4,none⟩=some (.int .i64 req)∧w'.cell? ⟨cb,5,none⟩=some (.int .i64 ver)∧w'.cell? ⟨cb,6,none⟩=some (.string key)∧w'.cell? ⟨cb,7,none⟩=some (.int .i64 code)∧w'.cell? ⟨cb+1,0,none⟩=some (.int .u8 kind)∧w'.cell? ⟨cb+1,1,none⟩=some (.int .i64 node)∧w'.cell? ⟨cb+1,2,none⟩=some (.int .i64 client)∧w'.cell? ⟨cb+1,3,none⟩=some (.int .i64 inc)∧w'.cell? ⟨cb+1,4,none⟩=some (.int .i64 req)∧w'.cell? ⟨cb+1,5,none⟩=some (.int .i64 ver)∧w'.cell? ⟨cb+1,6,none⟩=some (.string key)∧w'.cell? ⟨cb+1,7,none⟩=some (.int .i64 code)∧w'.cell? ⟨rb,0,none⟩=some (.int .i64 RN)) (first|with_reducible exact⟨f0,f1,f2,f3,f4,f5,f6,f7,z0,z1,z2,z3,z4,z5,z6,z7,r2⟩|with_reducible exact⟨e0,e1,e2,e3,e4,e5,e6,e7,y0,y1,y2,y3,y4,y5,y6,y7,r1⟩|with_reducible exact⟨d0,d1,d2,d3,d4,d5,d6,d7,x0,x1,x2,x3,x4,x5,x6,x7,r0⟩|go_keep)
         (first
         | (go_at_call 22;refine(HDT0.out _ (HD3.out.grown (by repeat (first|exact grown_refl _|refine grown_alloc ?_ _|refine grown_drew ?_)))).mono ?_;rintro e w4 ⟨rfl,hp,hs⟩;have q1:=(hs cb ho1).trans (kept_block HB1.out (by repeat (first|exact grown_refl _|refine grown_alloc ?_ _|refine grown_drew ?_)));have q2:=(hs (cb+1) ho2).trans (kept_block HB2.out (by repeat (first|exact grown_refl _|refine grown_alloc ?_ _|refine grown_drew ?_)));have r1:=hp.rc0;rw[HRN.out] at r1;obtain⟨e0,e1,e2,e3,e4,e5,e6,e7⟩:=eight q1;obtain⟨y0,y1,y2,y3,y4,y5,y6,y7⟩:=eight q2;have HP:=Lib.hid hp;have HQ1:=Lib.hid q1;have HQ2:=Lib.hid q2;clear hp hs q1 q2)
         | (go_at_call 11;refine(HMY0.out _).mono ?_;rintro e w5 ⟨rfl,hg⟩;have hgg:w4.grownBy w5 none:=grown_trans (by repeat (first|exact grown_refl _|refine grown_alloc ?_ _|refine grown_drew ?_)) hg;have q1:=kept_block HQ1.out hgg;have q2:=kept_block HQ2.out hgg;have hp5:=HP.out.grown hgg;have r2:=hp5.rc0;rw[HRN.out] at r2;obtain⟨f0,f1,f2,f3,f4,f5,f6,f7⟩:=eight q1;obtain⟨z0,z1,z2,z3,z4,z5,z6,z7⟩:=eight q2;have HP5:=Lib.hid hp5;have HR2:=Lib.hid q2;clear hg hgg q1 q2 hp5))
        all_goals
         go_wp2_with fail
         go_meet
        all_goals exact⟨rfl,(show _∧_ from ⟨HP5.out,HR2.out⟩)⟩
       case rest=>
        obtain⟨rfl,hD⟩:=hcut
        obtain⟨wx,hwx⟩:∃x:World,x=wc:=⟨_,rfl⟩
        rw[←hwx] at hD ⊢
        have HD:=Lib.hid hD.out
        clear hwx hD x0 x1 x2 x3 x4 x5 x6 x7
        obtain⟨x0,x1,x2,x3,x4,x5,x6,x7⟩:=eight HD.out.2
        go_wp2_with (go_at_call 60;refine(HDR.out HOK.out.1 HOK.out.2 _ _ HD.out.1).mono ?_;rintro e w6 ⟨rfl,hp,hs⟩;have HP:=Lib.hid hp;clear hp hs)
        go_roundw
        case rel=>exact⟨j+1,_,_,by omega,by go_num,(show MadeI _ _ _ _ _ _ _ _ _ from HNX.out _ (by rw[HRA0.out];exact HP.out))⟩
        case measure=>simp[intOf];omega
      ·have HDT0:Hid (∀(W':World),Duo w own tb rb L R W'→Calls Tryz.prog 22 #[.pointer (some ⟨tb,0,none⟩),.agg #[.int .u8 kind,.int .i64 node,.int .i64 client,.int .i64 inc,.int .i64 req,.int .i64 ver,.string key,.int .i64 code]] W' fun e w'=>e = .returned (.int .i64 2)∧Duo w own tb rb (actT L c) R w'∧Same own W' w'):=(show ∀(_:World),_→Calls _ _ _ _ _ from fun W' hp=>by have:=HDT.out W' hp;rw[if_neg hok] at this;exact this)
       have HRA0:Hid (ractT R c=R):=(show _=_ from by rw[HRA.out,if_neg hok])
       clear hok HDT HMY HRA
       go_cut [81] (fun s wx=>s = .bool false∧Hid (Duo w own tb rb (actT L c) R wx))
       case first=>
        refine wp_region_held_drew (S:=fun w'=>w'.cell? ⟨cb,0,none⟩=some (.int .u8 kind)∧w'.cell? ⟨cb,1,none⟩=some (.int .i64 node)∧w'.cell? ⟨cb,2,none⟩=some (.int .i64 client)∧w'.cell? ⟨cb,3,none⟩=some (.int .i64 inc)∧w'.cell? ⟨cb,4,none⟩=some (.int .i64 req)∧w'.cell? ⟨cb,5,none⟩=some (.int .i64 ver)∧w'.cell? ⟨cb,6,none⟩=some (.string key)∧w'.cell? ⟨cb,7,none⟩=some (.int .i64 code)) (by kernel_rfl) (eight (kept_block HB1.out (grown_drew (grown_refl wb)))) (fun hHeld=>?_)
        refine tg 0 ?_ hHeld ?_ ?_ rfl (by kernel_rfl) rfl fun _ _ _ h=>h
        rotate_left
        ·intro w hSw;(try dsimp only at hSw);go_simp;try with_reducible rfl
        (try simp only[Act.put,pA,pB,pC])
        refine tg 1 ?_ hHeld ?_ ?_ rfl (by kernel_rfl) rfl fun _ _ _ h=>h
        rotate_left
        ·intro w hSw;(try dsimp only at hSw);go_simp;try with_reducible rfl
        (try simp only[Act.put,pA,pB,pC])
        refine rdy 2 (fun K hK=>?_) rfl (by kernel_rfl)
        go_simp
        refine(HDT0.out _ (HD3.out.grown (by repeat (first|exact grown_refl _|refine grown_alloc ?_ _|refine grown_drew ?_)))).mono ?_
        rintro e w4 ⟨rfl,hp,hs⟩
        have hS4:=eight ((hs cb ho1).trans (kept_block HB1.out (by repeat (first|exact grown_refl _|refine grown_alloc ?_ _|refine grown_drew ?_))))
        have HP:=Lib.hid hp
        clear hp hs hHeld
        go_wp2_with fail
        refine hK.out _ _ hS4 (fun hHeld=>?_)
        clear hK K hS4
        (try simp only[Act.put,pA,pB,pC])
        refine tg 3 ?_ hHeld ?_ ?_ rfl (by kernel_rfl) rfl fun _ _ _ h=>h
        rotate_left
        ·intro w hSw;(try dsimp only at hSw);go_simp;try with_reducible rfl
        (try simp only[Act.put,pA,pB,pC])
        refine tg 4 ?_ hHeld ?_ ?_ rfl (by kernel_rfl) rfl fun _ _ _ h=>h
        rotate_left
        ·intro w hSw;(try dsimp only at hSw);go_simp;try with_reducible rfl
        (try simp only[Act.put,pA,pB,pC])
        refine tgn 5 hHeld ?_ rfl (by kernel_rfl) rfl fun _ _ _ h=>h
        (try simp only[Act.put,pA,pB,pC])
        refine tgn 6 hHeld ?_ rfl (by kernel_rfl) rfl fun _ _ _ h=>h
        (try simp only[Act.put,pA,pB,pC])
        refine tg 7 ?_ hHeld ?_ ?_ rfl (by kernel_rfl) rfl fun _ _ _ h=>h
        rotate_left
        ·intro w hSw;(try dsimp only at hSw);go_simp;try with_reducible rfl
        (try simp only[Act.put,pA,pB,pC])
        refine tg 8 ?_ hHeld ?_ ?_ rfl (by kernel_rfl) rfl fun _ _ _ h=>h
        rotate_left
        ·intro w hSw;(try dsimp only at hSw);go_simp;try with_reducible rfl
        (try simp only[Act.put,pA,pB,pC])
        refine tgn 9 hHeld ?_ rfl (by kernel_rfl) rfl fun _ _ _ h=>h
        (try simp only[Act.put,pA,pB,pC])
        refine tgn 10 hHeld ?_ rfl (by kernel_rfl) rfl fun _ _ _ h=>h
        (try simp only[Act.put,pA,pB,pC])
        refine tgn 11 hHeld ?_ rfl (by kernel_rfl) rfl fun _ _ _ h=>h
        (try simp only[Act.put,pA,pB,pC])
        refine tgn 12 hHeld ?_ rfl (by kernel_rfl) rfl fun _ _ _ h=>h
        (try simp only[Act.put,pA,pB,pC])
        refine tgn 13 hHeld ?_ rfl (by kernel_rfl) rfl fun _ _ _ h=>h
        (try simp only[Act.put,pA,pB,pC])
        refine tgn 14 hHeld ?_ rfl (by kernel_rfl) rfl fun _ _ _ h=>h
        (try simp only[Act.put,pA,pB,pC])
        refine tgn 15 hHeld ?_ rfl (by kernel_rfl) rfl fun _ _ _ h=>h
        (try simp only[Act.put,pA,pB,pC])
        refine tg 16 ?_ hHeld ?_ ?_ rfl (by kernel_rfl) rfl fun _ _ _ h=>h
        rotate_left
        ·intro w hSw;(try dsimp only at hSw);go_simp;try with_reducible rfl
        (try simp only[Act.put,pA,pB,pC])
        refine wpAnyH_done (by kernel_rfl) ?_ _
        go_wp2_with fail
        go_meet
        exact⟨rfl,HP⟩
       case rest=>
        obtain⟨rfl,hD⟩:=hcut
        obtain⟨wx,hwx⟩:∃x:World,x=wc:=⟨_,rfl⟩
        rw[←hwx] at hD ⊢
        have HD:=Lib.hid hD.out
        clear hwx hD
        go_wp2
        go_roundw
        case rel=>exact⟨j+1,_,_,by omega,by go_num,(show MadeI _ _ _ _ _ _ _ _ _ from HNX.out _ (by rw[HRA0.out];exact HD.out))⟩
        case measure=>simp[intOf];omega
     ·go_wp2
      go_ret3
      exact Or.inl ⟨rfl,grown_trans HDU.out.base (World.grownBy_alloc _ _ none)⟩
   ·obtain rfl:j=m:=by omega
    obtain⟨hduo,hboth,hrng,hcl⟩:=hI.out
    have HQ:Hid (MadeQ2 w N K (.returned (.tuple #[.pointer (some ⟨tb,0,none⟩),.pointer (some ⟨rb,0,none⟩),.bool true])) wr):=(show MadeQ2 _ _ _ _ _ from Or.inr ⟨tb,rb,L,R,j,rfl,hduo,(both_md hboth hrng hcl).le h60,by have:=hboth.sim.s0.N;have:=hboth.inv.ln;omega,h60,hboth⟩)
    clear hduo hboth hrng hcl hI
    go_wp2
    go_ret3
    exact HQ.out
theorem made_any (a b:Nat) (ha:a≤255) (hb:b≤255) (v:Value) (l:List Cmd) (w:World) (h:CmdRow w w.heap.size v l) (N:Nat) (hN:N=1+a%8) :
  ∃K,Calls Tryz.prog 16 #[.int .u8 a,.int .u8 b,v] w (MadeQ w N K):=by
 obtain⟨K,hK⟩:=made2_any a b ha hb v l w h N hN
 exact⟨K,hK.mono fun e w' hq=>hq.imp id fun ⟨tb,rb,L,R,j,h1,h2,h3,h4,_⟩=>⟨tb,rb,L,R,h1,h2,h3,h4⟩⟩
theorem pkStep_nodup {pre:List Tsk} {t:Tsk} (h:(pre.map (·.nd)).Nodup):((pkStep pre t).map (·.nd)).Nodup:=by
 unfold pkStep
 split
 ·exact h
 ·rename_i hn
  rw[List.map_append]
  exact List.nodup_append.2 ⟨h,by simp,fun a ha b hb e=>by simp at hb;subst hb;subst e;exact hn ha⟩
theorem pk_nodup (ts:List Tsk):((pk ts).map (·.nd)).Nodup:=by
 have:∀(r pre:List Tsk),(pre.map (·.nd)).Nodup→((r.foldl pkStep pre).map (·.nd)).Nodup:=by
  intro r
  induction r with
  | nil=>intro pre h;exact h
  | cons t r ih=>intro pre h;exact ih _ (pkStep_nodup h)
 exact this ts [] (by simp)
theorem pk_sub {ts:List Tsk} {t:Tsk} (h:t∈pk ts):t∈ts:=by
 have:∀(r pre:List Tsk) (t:Tsk),t∈r.foldl pkStep pre→t∈pre∨t∈r:=by
  intro r
  induction r with
  | nil=>intro pre t h;exact Or.inl h
  | cons a r ih=>
   intro pre t h
   rcases ih _ t h with h|h
   ·unfold pkStep at h
    split at h
    ·exact Or.inl h
    ·rcases List.mem_append.1 h with h|h
     ·exact Or.inl h
     ·simp at h;subst h;exact Or.inr (by simp)
   ·exact Or.inr (by simp[h])
 rcases this ts [] t h with h|h
 ·simp at h
 ·exact h
theorem pk_head {ts:List Tsk} {t:Tsk} (h:ts[0]? = some t):(pk ts)[0]? = some t:=by
 obtain⟨h1,h2⟩:=List.getElem?_eq_some_iff.1 h
 have hp:=pk_pre ts 1
 have e:pk (ts.take 1) = [t]:=by
  cases ts with
  | nil=>simp at h1
  | cons a r=>
   simp at h2;subst h2
   simp[pk,pkStep]
 rw[e] at hp
 obtain⟨r,hr⟩:=hp
 rw[←hr];rfl
def nowT (L:Tab) (N:Nat):List Tsk:=sortT (rawT (needL L N))
theorem now_len (L:Tab) (N:Nat):(nowT L N).length=cntL L N:=by unfold nowT;rw[(sortT_perm _).length_eq,cnt_raw]
theorem now_held {L:Tab} {N q:Nat} {a b:Tsk} (ha:(nowT L N)[q]? = some a) (hb:(nowT L N)[q+1]? = some b):¬b.held<a.held:=by
 have h:=sortT_srt (rawT (needL L N))
 unfold Srt at h
 rw[List.pairwise_iff_getElem] at h
 obtain⟨h1,rfl⟩:=List.getElem?_eq_some_iff.1 ha
 obtain⟨h2,rfl⟩:=List.getElem?_eq_some_iff.1 hb
 have:=h q (q+1) h1 h2 (by omega)
 rw[ltT_false] at this
 intro h3
 exact this (Or.inl h3)
def nxtT (L:Tab) (N most:Nat):List Tsk:=(pk (nowT L N)).take most
theorem nxt_len (L:Tab) (N most:Nat):(nxtT L N most).length≤most∧(nxtT L N most).length≤cntL L N:=by
 unfold nxtT
 rw[List.length_take]
 have:=pk_len (nowT L N)
 rw[now_len] at this
 omega
theorem nxt_head {L:Tab} {N most:Nat} (hm:1≤most) {t:Tsk} (h:(nowT L N)[0]? = some t):(nxtT L N most)[0]? = some t:=by
 unfold nxtT
 rw[List.getElem?_take_of_lt (by omega)]
 exact pk_head h
theorem nxt_pos {L:Tab} {N most:Nat} (hm:1≤most) (h:0<cntL L N):0<(nxtT L N most).length:=by
 obtain⟨t,ht⟩:∃t,(nowT L N)[0]? = some t:=⟨_,List.getElem?_eq_getElem (by rw[now_len];exact h)⟩
 exact(List.getElem?_eq_some_iff.1 (nxt_head hm ht)).1
theorem nxt_mem {L:Tab} {N most:Nat} {t:Tsk} (h:t∈nxtT L N most):t.id∈curL L∧t.nd∈misN L t.id N:=by
 have h1:=(sortT_perm _).mem_iff.1 (pk_sub (List.mem_of_mem_take h))
 exact⟨(mem_raw.1 h1).1,(mem_raw.1 h1).2.1⟩
theorem nxt_ne {L:Tab} {N most i j:Nat} {a b:Tsk} (ha:(nxtT L N most)[i]? = some a) (hb:(nxtT L N most)[j]? = some b) (hij:i≠j):a.nd≠b.nd:=by
 intro e
 have hn:((nxtT L N most).map (·.nd)).Nodup:=by
  unfold nxtT
  rw[List.map_take]
  exact List.Nodup.sublist (List.take_sublist _ _) (pk_nodup _)
 obtain⟨h1,rfl⟩:=List.getElem?_eq_some_iff.1 ha
 obtain⟨h2,rfl⟩:=List.getElem?_eq_some_iff.1 hb
 exact hij ((List.getElem_inj (i:=i) (j:=j) (h₀:=by simpa using h1) (h₁:=by simpa using h2) hn).1 (by simpa using e))
structure EJ (w:World) (own:Nat→Prop) (tb rb:Nat) (R:RTab) (N K:Nat) (nx:List Tsk) (c0 i:Nat) (L:Tab) (W:World):Prop where
 duo:Duo w own tb rb L R W
 md:Md N K 60 L
 lk:∀(q:Nat) (t:Tsk),i≤q→nx[q]? = some t→t.id∈curL L∧t.nd∈misN L t.id N
 ne:∀(q q':Nat) (t t':Tsk),nx[q]? = some t→nx[q']? = some t'→q≠q'→t.nd≠t'.nd
 ct:cntL L N+i=c0
theorem EJ.grown {w W W':World} {own:Nat→Prop} {tb rb:Nat} {R:RTab} {N K:Nat} {nx:List Tsk} {c0 i:Nat} {L:Tab} (h:EJ w own tb rb R N K nx c0 i L W) (hg:W.grownBy W' none):EJ w own tb rb R N K nx c0 i L W':=⟨h.duo.grown hg,h.md,h.lk,h.ne,h.ct⟩
theorem EJ.act {w W W':World} {own own':Nat→Prop} {tb rb:Nat} {R:RTab} {N K:Nat} {nx:List Tsk} {c0 i:Nat} {L:Tab} (h:EJ w own tb rb R N K nx c0 i L W) (hN:N≤100) {t:Tsk} (ht:nx[i]? = some t) (hd:Duo w own' tb rb (actT L (ackC L t.id t.nd)) R W'):EJ w own' tb rb R N K nx c0 (i+1) (actT L (ackC L t.id t.nd)) W':=by
 obtain⟨h1,h2⟩:=h.lk i t (Nat.le_refl _) ht
 obtain⟨m1,m2,m3,m4⟩:=ack_md h.md hN (by decide) h1 h2
 refine⟨hd,m1,fun q u hq hu=>?_,h.ne,?_⟩
 ·obtain⟨g1,g2⟩:=h.lk q u (by omega) hu
  rw[m2]
  refine⟨g1,(ack_mis h.md hN (by decide) h1 h2 g1 u.nd).2 ⟨g2,fun e=>h.ne q i u t hu ht (by omega) e.2⟩⟩
 ·have:=cnt_ack h.md hN (by decide) h1 h2
  have:=h.ct
  omega
section
variable {w W : World} {own : Nat → Prop} {tb rb : Nat} {L : Tab} {R : RTab} {N K : Nat}
theorem Duo.needs (h:Duo w own tb rb L R W) (hm:Md N K 60 L) (hN:N≤100):Calls Tryz.prog 19 #[.pointer (some ⟨tb,0,none⟩),.int .i64 N] W fun e w'=>∃v,e = .returned v∧NRow w' v (needL L N)∧W.grownBy w' none:=by
 obtain⟨q,h1,h2,h3⟩:=h.ex
 have hv:=hm.vl
 refine needs_any h1 N (by omega) (fun i=>hm.inv.fits (by omega) i) (fun i=>?_) (by rw[hm.inv.ln];omega) (fun p hp=>?_) (by omega)
 ·rw[holdL_length]
  have:=(hm.inv.hm.len i).1
  omega
 ·have:=(hm.rng.v p hp).2
  unfold maxLen;omega
theorem Duo.life (h:Duo w own tb rb L R W) (hm:Md N K 60 L) (hN:N≤100) (n:Int):Calls Tryz.prog 23 #[.pointer (some ⟨tb,0,none⟩),.int .i64 n] W fun e w'=>e = .returned (.int .i64 (lifeV L n))∧W.grownBy w' none:=by
 obtain⟨q,h1,h2,h3⟩:=h.ex
 exact life_at h1 n (by rw[hm.inv.ln];omega)
theorem Duo.healthy (h:Duo w own tb rb L R W) (hm:Md N K 60 L) (hN:N≤100) (hc:cntL L N=0) (n:Nat) (hn:n<N) (hl:0<lifeV L n):Calls Tryz.prog 24 #[.pointer (some ⟨tb,0,none⟩),.int .i64 n] W fun e w'=>e = .returned (.bool true)∧W.grownBy w' none:=by
 obtain⟨q,h1,h2,h3⟩:=h.ex
 have hv:=hm.vl
 refine healthy_at h1 n (by rw[hm.inv.ln];omega) (fun p hp=>?_) (by omega) hl (miss_none hm hc (by omega) (by omega) hl)
 have:=(hm.rng.v p hp).2
 unfold maxLen;omega
theorem Duo.ack (h:Duo w own tb rb L R W) (hm:Md N K 60 L) (hN:N≤100) {i:ID} (hi:i∈curL L) {x:Int} (hx:x∈misN L i N) :
  Calls Tryz.prog 22 #[.pointer (some ⟨tb,0,none⟩),.agg #[.int .u8 4,.int .i64 x,.int .i64 0,.int .i64 (lifeV L x),.int .i64 0,.int .i64 i.ver,.string i.key,.int .i64 0]] W fun e w'=>e = .returned (.int .i64 0)∧Duo w own tb rb (actT L (ackC L i x)) R w'∧Same own W w':=by
 have h1:=hm.nx
 have h2:=hm.of
 have h3:=(cur_parts hm hi).2.2.1
 have:=h.doT hm.inv (by omega) (by omega) (by omega) (ackC L i x) (by show(i.key.size:Int)≤_;omega)
 rw[if_pos (ack_may hm hN (by decide) hi hx)] at this
 exact this
end
end Go.Proofs.YtjfelfjobeeenaaGreat
