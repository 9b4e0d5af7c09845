/- Do, whole. Conditions: a table that lies in memory, its numbers within bounds. What New makes. Conditions: none. A map of typed pairs as the shelf's contracts have it. Conditions: keys that read as literals. -/
import Derived.Test.YtjfelfjobeeenaaGreatF7
import Derived.Deep.OwnRows
import Derived.Test.YtjfelfjobeeenaaGreatF1
import Derived.Shelf.SlIterI.Nil
import Derived.Shelf.SlIter.Nil
import Derived.Sort.KeysCollected
set_option linter.unusedSimpArgs false
set_option linter.unusedVariables false
namespace Go.Proofs.YtjfelfjobeeenaaGreat
open Go.RowKit Go.Sf Go.Shelf
def opT (T:Tab) (c:Cmd) (nb:Nat):Tab:=
 if c.kind=1 then { T with offers:=T.offers+1 } else if c.kind=2 then lifeT T c else if c.kind=3 then beganT T c else if c.kind=4 then ackT T c nb else if c.kind=5 then refuseT T c nb else if c.kind=6 then removedT T c else rejectedT T c
def cleanT (T:Tab):Tab:={ T with holds:=T.holds.filter (fun p=>!struckH T p.1 p.2),refuses:=T.refuses.filter (fun p=>!struckR T p.1 p.2) }
def doT (T:Tab) (c:Cmd) (nb:Nat):Tab:=cleanT (opT T c nb)
structure Tab.Ok (T:Tab):Prop where
 o0:0≤T.offers
 o1:T.offers<4611686018427387904
 n0:0≤T.next
 n1:T.next<4611686018427387904
 ln:T.lives.length≤9223372036854775807
 rs:∀i,(memH T.refuses i).length<9223372036854775807
structure SameB (T T':Tab) (nb:Nat):Prop where
 lb:T'.lb=T.lb
 cb:T'.cb=T.cb
 vb:T'.vb=T.vb
 pb:T'.pb=T.pb
 hb:T'.hb=T.hb
 rb:T'.rb=T.rb
 hs:∀x∈T'.holds,x.2.blk∈T.holds.map (·.2.blk)∨x.2.blk=nb
 rs:∀x∈T'.refuses,x.2.blk∈T.refuses.map (·.2.blk)∨x.2.blk=nb
theorem SameB.refl (T:Tab) (nb:Nat):SameB T T nb:=⟨rfl,rfl,rfl,rfl,rfl,rfl,fun x hx=>Or.inl (List.mem_map.2 ⟨x,hx,rfl⟩),fun x hx=>Or.inl (List.mem_map.2 ⟨x,hx,rfl⟩)⟩
theorem SameB.blocks {T T':Tab} {nb:Nat} (h:SameB T T' nb) (tb:Nat):∀b∈T'.blocks tb,b∈T.blocks tb∨b=nb:=by
 intro b hb
 simp only[Tab.blocks,List.mem_cons,List.mem_append,h.lb,h.cb,h.vb,h.pb,h.hb,h.rb] at hb ⊢
 rcases hb with h1|h1|h1|h1|h1|h1|h1|h1|h1
 ·exact Or.inl (by simp[h1])
 ·exact Or.inl (by simp[h1])
 ·exact Or.inl (by simp[h1])
 ·exact Or.inl (by simp[h1])
 ·exact Or.inl (by simp[h1])
 ·exact Or.inl (by simp[h1])
 ·exact Or.inl (by simp[h1])
 ·obtain⟨x,hx,rfl⟩:=List.mem_map.1 h1
  rcases h.hs x hx with h2|h2
  ·exact Or.inl (by simp only[h2];simp)
  ·exact Or.inr h2
 ·obtain⟨x,hx,rfl⟩:=List.mem_map.1 h1
  rcases h.rs x hx with h2|h2
  ·exact Or.inl (by simp only[h2];simp)
  ·exact Or.inr h2
theorem opT_same (T:Tab) (c:Cmd) (nb:Nat):SameB T (opT T c nb) nb:=by
 have r:=SameB.refl T nb
 have hh:∀x∈T.holds,x.2.blk∈T.holds.map (·.2.blk)∨x.2.blk=nb:=r.hs
 have rr:∀x∈T.refuses,x.2.blk∈T.refuses.map (·.2.blk)∨x.2.blk=nb:=r.rs
 have done:∀(T':Tab),SameB T T' nb→∀i p k,SameB T (doneT T' i p k) nb:=fun T' h i p k=>⟨h.lb,h.cb,h.vb,h.pb,h.hb,h.rb,h.hs,h.rs⟩
 unfold opT
 split
 ·exact⟨rfl,rfl,rfl,rfl,rfl,rfl,hh,rr⟩
 ·split
  ·unfold lifeT lifeStep
   split
   ·exact⟨rfl,rfl,rfl,rfl,rfl,rfl,fun x hx=>Or.inl (by simp only at hx;rw[←sdelAll_blks T.holds c.node];exact List.mem_map.2 ⟨x,hx,rfl⟩),fun x hx=>Or.inl (by simp only at hx;rw[←sdelAll_blks T.refuses c.node];exact List.mem_map.2 ⟨x,hx,rfl⟩)⟩
   ·exact r
  ·split
   ·unfold beganT
    split
    ·exact⟨rfl,rfl,rfl,rfl,rfl,rfl,hh,rr⟩
    ·exact r
   ·split
    ·have h1:SameB T (heldT T ⟨c.key,c.ver⟩ c.node nb) nb:=⟨rfl,rfl,rfl,rfl,rfl,rfl,fun x hx=>sadd_blk x hx,fun x hx=>Or.inl (smod_blk x hx)⟩
     unfold ackT
     split
     ·unfold ackRest
      split
      ·exact h1
      ·split
       ·exact h1
       ·split
        ·exact⟨h1.lb,h1.cb,h1.vb,h1.pb,h1.hb,h1.rb,h1.hs,h1.rs⟩
        ·exact done _ h1 _ _ _
     ·exact r
    ·split
     ·have h1:SameB T (refusedT T ⟨c.key,c.ver⟩ c.node nb) nb:=⟨rfl,rfl,rfl,rfl,rfl,rfl,fun x hx=>Or.inl (smod_blk x hx),fun x hx=>sadd_blk x hx⟩
      unfold refuseT
      split
      ·unfold refRest
       split
       ·exact h1
       ·split
        ·exact done _ h1 _ _ _
        ·exact h1
      ·exact r
     ·split
      ·unfold removedT
       split
       ·exact⟨rfl,rfl,rfl,rfl,rfl,rfl,hh,rr⟩
       ·exact r
      ·unfold rejectedT
       split
       ·exact⟨rfl,rfl,rfl,rfl,rfl,rfl,hh,rr⟩
       ·exact r
section
variable {w w1 : World} {tb : Nat} {T : Tab}
theorem op_any (h:TRep w tb T) (ok:T.Ok) (c:Cmd) (h1:1≤c.kind) (h7:c.kind≤7) (n0:0≤c.node) (n1:c.node<T.lives.length) :
  Calls Tryz.prog (does c.kind) #[.pointer (some ⟨tb,0,none⟩),encCmd c] w fun e w'=>e = .returned (.tuple #[])∧∃nb,w.heap.size≤nb∧TRep w' tb (opT T c nb)∧Chg w w' (T.blocks tb):=by
 have hk:c.kind=1∨c.kind=2∨c.kind=3∨c.kind=4∨c.kind=5∨c.kind=6∨c.kind=7:=by omega
 rcases hk with hk|hk|hk|hk|hk|hk|hk
 ·rw[show does c.kind=129 from by rw[hk];rfl]
  exact(offer_any h c ok.o0 ok.o1).mono fun e w' ⟨he,hT,hc⟩=>⟨he,w.heap.size,Nat.le_refl _,by simpa[opT,hk] using hT,hc⟩
 ·rw[show does c.kind=130 from by rw[hk];rfl]
  exact(life_do h c ok.ln n0 n1).mono fun e w' ⟨he,hT,hc⟩=>⟨he,w.heap.size,Nat.le_refl _,by simpa[opT,hk] using hT,hc⟩
 ·rw[show does c.kind=131 from by rw[hk];rfl]
  exact(begin_any h c ok.n0 ok.n1).mono fun e w' ⟨he,hT,hc⟩=>⟨he,w.heap.size,Nat.le_refl _,by simpa[opT,hk] using hT,hc⟩
 ·rw[show does c.kind=132 from by rw[hk];rfl]
  exact(ack_any h c ok.ln n0 n1).mono fun e w' ⟨he,nb,hnb,hT,hc⟩=>⟨he,nb,hnb,by simpa[opT,hk] using hT,hc⟩
 ·rw[show does c.kind=133 from by rw[hk];rfl]
  exact(ref_any h c ok.ln n0 n1 (ok.rs _)).mono fun e w' ⟨he,nb,hnb,hT,hc⟩=>⟨he,nb,hnb,by simpa[opT,hk] using hT,hc⟩
 ·rw[show does c.kind=134 from by rw[hk];rfl]
  exact(remove_any h c ok.n0 ok.n1).mono fun e w' ⟨he,hT,hc⟩=>⟨he,w.heap.size,Nat.le_refl _,by simpa[opT,hk] using hT,hc⟩
 ·rw[show does c.kind=135 from by rw[hk];rfl]
  exact(reject_any h c).mono fun e w' ⟨he,hT,hc⟩=>⟨he,w.heap.size,Nat.le_refl _,by simpa[opT,hk] using hT,hc⟩
theorem does_enters (k:Int) (h1:1≤k) (h7:k≤7):∀args w,(callFunc (does k) args).run Tryz.prog w = .ok (.enter (does k) args) w:=by
 have hk:k=1∨k=2∨k=3∨k=4∨k=5∨k=6∨k=7:=by omega
 rcases hk with rfl|rfl|rfl|rfl|rfl|rfl|rfl
 ·exact enters_of Tryz.func129 (by kernel_rfl) rfl
 ·exact enters_of Tryz.func130 (by kernel_rfl) rfl
 ·exact enters_of Tryz.func131 (by kernel_rfl) rfl
 ·exact enters_of Tryz.func132 (by kernel_rfl) rfl
 ·exact enters_of Tryz.func133 (by kernel_rfl) rfl
 ·exact enters_of Tryz.func134 (by kernel_rfl) rfl
 ·exact enters_of Tryz.func135 (by kernel_rfl) rfl
set_option maxHeartbeats 8000000 in
set_option maxRecDepth 100000 in
theorem do_bad1 (h:TRep w tb T) (c:Cmd) (hkey:(c.key.size:Int)≤9223372036854775807) (hl:T.lives.length≤9223372036854775807) (hm:mayB c=false) :
  Calls Tryz.prog 22 #[.pointer (some ⟨tb,0,none⟩),encCmd c] w fun e w'=>e = .returned (.int .i64 2)∧w.grownBy w' none:=by
 have htb:=h.tlt
 have htb1:tb<w.heap.size+1:=by omega
 have htb2:tb<w.heap.size+1+1:=by omega
 have c3:=h.c3
 have hpl:=h.lt
 have HPL:=Lib.hid hpl
 have HT:=Lib.hid h
 clear h hpl
 obtain⟨kind,node,client,inc,req,ver,key,code⟩:=c
 have HMAY:Hid (∀W,Calls Tryz.prog 48 #[.agg #[.int .u8 kind,.int .i64 node,.int .i64 client,.int .i64 inc,.int .i64 req,.int .i64 ver,.string key,.int .i64 code]] W fun e w'=>e = .returned (.bool false)∧W.grownBy w' none):=fun W=>hm ▸ may_any kind node client inc req ver code key W hkey
 simp only[encCmd]
 go_enter Tryz.func22,Tryz.ntmps22
 go_wp2
 refine wp_region_quiet_ext (by kernel_rfl) (by kernel_rfl) ?_
 repeat (any_goals (first|go_big_quiet_step (((go_at_call 48;exact calls_ext (HMAY.out _))))|quiet_step (((go_at_call 48;exact calls_ext (HMAY.out _))))))
 refine wpQuiet_nil ?_
 intro _ hw'
 obtain⟨x,hw''⟩:=hw'
 subst hw''
 go_wp2
 go_ret
 exact⟨rfl,(by repeat (first|exact grown_refl _|exact World.grownBy_alloc _ _ _|refine grown_ext' ?_ _|refine grown_alloc ?_ _|refine grown_drew ?_))⟩
set_option maxHeartbeats 8000000 in
set_option maxRecDepth 100000 in
theorem do_bad2 (h:TRep w tb T) (c:Cmd) (hkey:(c.key.size:Int)≤9223372036854775807) (hl:T.lives.length≤9223372036854775807) (hm:mayB c=true) (hn:(T.lives.length:Int)≤c.node) :
  Calls Tryz.prog 22 #[.pointer (some ⟨tb,0,none⟩),encCmd c] w fun e w'=>e = .returned (.int .i64 2)∧w.grownBy w' none:=by
 have htb:=h.tlt
 have htb1:tb<w.heap.size+1:=by omega
 have htb2:tb<w.heap.size+1+1:=by omega
 have c3:=h.c3
 have hpl:=h.lt
 have HPL:=Lib.hid hpl
 have HT:=Lib.hid h
 clear h hpl
 obtain⟨kind,node,client,inc,req,ver,key,code⟩:=c
 have HMAY:Hid (∀W,Calls Tryz.prog 48 #[.agg #[.int .u8 kind,.int .i64 node,.int .i64 client,.int .i64 inc,.int .i64 req,.int .i64 ver,.string key,.int .i64 code]] W fun e w'=>e = .returned (.bool true)∧W.grownBy w' none):=fun W=>hm ▸ may_any kind node client inc req ver code key W hkey
 have dn:decide ((T.lives.length:Int)≤node)=true:=by simpa using hn
 simp only[encCmd]
 go_enter Tryz.func22,Tryz.ntmps22
 go_wp2
 refine wp_region_quiet_ext (by kernel_rfl) (by kernel_rfl) ?_
 repeat (any_goals (first|go_big_quiet_step (((go_at_call 48;exact calls_ext (HMAY.out _))))|quiet_step (((go_at_call 48;exact calls_ext (HMAY.out _))))))
 refine wpQuiet_nil ?_
 intro _ hw'
 obtain⟨x,hw''⟩:=hw'
 subst hw''
 go_wp2
 go_ret
 exact⟨rfl,(by repeat (first|exact grown_refl _|exact World.grownBy_alloc _ _ _|refine grown_ext' ?_ _|refine grown_alloc ?_ _|refine grown_drew ?_))⟩
set_option maxHeartbeats 8000000 in
set_option maxRecDepth 100000 in
theorem do_ok (h:TRep w tb T) (c:Cmd) (hkey:(c.key.size:Int)≤9223372036854775807) (hl:T.lives.length≤9223372036854775807) (ok:T.Ok) (hm:mayB c=true) (hn:c.node<(T.lives.length:Int)) (h1:1≤c.kind) (h7:c.kind≤7) (n0:0≤c.node) :
  Calls Tryz.prog 22 #[.pointer (some ⟨tb,0,none⟩),encCmd c] w fun e w'=>e = .returned (.int .i64 0)∧∃nb,w.heap.size≤nb∧TRep w' tb (doT T c nb)∧Chg w w' (T.blocks tb):=by
 have htb:=h.tlt
 have htb1:tb<w.heap.size+1:=by omega
 have htb2:tb<w.heap.size+1+1:=by omega
 have c3:=h.c3
 have hpl:=h.lt
 have HPL:=Lib.hid hpl
 have HT:=Lib.hid h
 clear h hpl
 obtain⟨kind,node,client,inc,req,ver,key,code⟩:=c
 have HMAY:Hid (∀W,Calls Tryz.prog 48 #[.agg #[.int .u8 kind,.int .i64 node,.int .i64 client,.int .i64 inc,.int .i64 req,.int .i64 ver,.string key,.int .i64 code]] W fun e w'=>e = .returned (.bool true)∧W.grownBy w' none):=fun W=>hm ▸ may_any kind node client inc req ver code key W hkey
 simp only at h1 h7 n0 hn
 have dn:decide ((T.lives.length:Int)≤node)=false:=by simpa using hn
 have HOP:Hid (∀W,TRep W tb T→Calls Tryz.prog (does kind) #[.pointer (some ⟨tb,0,none⟩),.agg #[.int .u8 kind,.int .i64 node,.int .i64 client,.int .i64 inc,.int .i64 req,.int .i64 ver,.string key,.int .i64 code]] W fun e w'=>e = .returned (.tuple #[])∧∃nb,W.heap.size≤nb∧TRep w' tb (opT T ⟨kind,node,client,inc,req,ver,key,code⟩ nb)∧Chg W w' (T.blocks tb)):=fun W hW=>op_any hW ok ⟨kind,node,client,inc,req,ver,key,code⟩ h1 h7 n0 hn
 have eg:=does_enters kind h1 h7
 have HDOES:Hid (∀W,Calls Tryz.prog 66 #[.int .u8 kind] W fun e w'=>e = .returned (.func (.func (does kind)) #[] #[])∧w'=W):=fun W=>does_any kind h1 h7 W
 clear h1 h7 n0 hn ok
 generalize does kind=g at *
 simp only[encCmd]
 go_enter Tryz.func22,Tryz.ntmps22
 go_wp2
 refine wp_region_quiet_ext (by kernel_rfl) (by kernel_rfl) ?_
 repeat (any_goals (first|go_big_quiet_step (((go_at_call 48;exact calls_ext (HMAY.out _))))|quiet_step (((go_at_call 48;exact calls_ext (HMAY.out _))))))
 refine wpQuiet_nil ?_
 intro _ hw'
 obtain⟨x,hw''⟩:=hw'
 subst hw''
 go_wp2
 have hg:w.grownBy (ext ((w.alloc (.cells #[.pointer (some ⟨tb,0,none⟩)] 38)).alloc (.cells #[.int .u8 kind,.int .i64 node,.int .i64 client,.int .i64 inc,.int .i64 req,.int .i64 ver,.string key,.int .i64 code] 24)) x) none:=(by repeat (first|exact grown_refl _|exact World.grownBy_alloc _ _ _|refine grown_ext' ?_ _|refine grown_alloc ?_ _|refine grown_drew ?_))
 have p0:(ext ((w.alloc (.cells #[.pointer (some ⟨tb,0,none⟩)] 38)).alloc (.cells #[.int .u8 kind,.int .i64 node,.int .i64 client,.int .i64 inc,.int .i64 req,.int .i64 ver,.string key,.int .i64 code] 24)) x).cell? ⟨w.heap.size,0,none⟩=some (.pointer (some ⟨tb,0,none⟩)):=by simp[go_sem]
 have q0:(ext ((w.alloc (.cells #[.pointer (some ⟨tb,0,none⟩)] 38)).alloc (.cells #[.int .u8 kind,.int .i64 node,.int .i64 client,.int .i64 inc,.int .i64 req,.int .i64 ver,.string key,.int .i64 code] 24)) x).cell? ⟨w.heap.size+1,0,none⟩=some (.int .u8 kind):=by simp[go_sem]
 have q1:(ext ((w.alloc (.cells #[.pointer (some ⟨tb,0,none⟩)] 38)).alloc (.cells #[.int .u8 kind,.int .i64 node,.int .i64 client,.int .i64 inc,.int .i64 req,.int .i64 ver,.string key,.int .i64 code] 24)) x).cell? ⟨w.heap.size+1,1,none⟩=some (.int .i64 node):=by simp[go_sem]
 have q2:(ext ((w.alloc (.cells #[.pointer (some ⟨tb,0,none⟩)] 38)).alloc (.cells #[.int .u8 kind,.int .i64 node,.int .i64 client,.int .i64 inc,.int .i64 req,.int .i64 ver,.string key,.int .i64 code] 24)) x).cell? ⟨w.heap.size+1,2,none⟩=some (.int .i64 client):=by simp[go_sem]
 have q3:(ext ((w.alloc (.cells #[.pointer (some ⟨tb,0,none⟩)] 38)).alloc (.cells #[.int .u8 kind,.int .i64 node,.int .i64 client,.int .i64 inc,.int .i64 req,.int .i64 ver,.string key,.int .i64 code] 24)) x).cell? ⟨w.heap.size+1,3,none⟩=some (.int .i64 inc):=by simp[go_sem]
 have q4:(ext ((w.alloc (.cells #[.pointer (some ⟨tb,0,none⟩)] 38)).alloc (.cells #[.int .u8 kind,.int .i64 node,.int .i64 client,.int .i64 inc,.int .i64 req,.int .i64 ver,.string key,.int .i64 code] 24)) x).cell? ⟨w.heap.size+1,4,none⟩=some (.int .i64 req):=by simp[go_sem]
 have q5:(ext ((w.alloc (.cells #[.pointer (some ⟨tb,0,none⟩)] 38)).alloc (.cells #[.int .u8 kind,.int .i64 node,.int .i64 client,.int .i64 inc,.int .i64 req,.int .i64 ver,.string key,.int .i64 code] 24)) x).cell? ⟨w.heap.size+1,5,none⟩=some (.int .i64 ver):=by simp[go_sem]
 have q6:(ext ((w.alloc (.cells #[.pointer (some ⟨tb,0,none⟩)] 38)).alloc (.cells #[.int .u8 kind,.int .i64 node,.int .i64 client,.int .i64 inc,.int .i64 req,.int .i64 ver,.string key,.int .i64 code] 24)) x).cell? ⟨w.heap.size+1,6,none⟩=some (.string key):=by simp[go_sem]
 have q7:(ext ((w.alloc (.cells #[.pointer (some ⟨tb,0,none⟩)] 38)).alloc (.cells #[.int .u8 kind,.int .i64 node,.int .i64 client,.int .i64 inc,.int .i64 req,.int .i64 ver,.string key,.int .i64 code] 24)) x).cell? ⟨w.heap.size+1,7,none⟩=some (.int .i64 code):=by simp[go_sem]
 have T1:=HT.out.grown hg
 generalize (ext ((w.alloc (.cells #[.pointer (some ⟨tb,0,none⟩)] 38)).alloc (.cells #[.int .u8 kind,.int .i64 node,.int .i64 client,.int .i64 inc,.int .i64 req,.int .i64 ver,.string key,.int .i64 code] 24)) x)=W1 at *
 have htb3:=T1.tlt
 have HT1:=Lib.hid T1
 have HG:=Lib.hid hg
 clear T1 hg
 go_still_tail 5,(by kernel_rfl)
 refine wpStill_step (fun K hK=>?_)
 go_simp
 refine⟨_,HDOES.out _,hK _ ?_⟩
 clear hK K
 repeat still_step
 try refine wpStill_nil ?_
 go_wp2_with (go_at_fn g;refine(HOP.out _ (HT1.out.grown (grown_drew (grown_refl _)))).mono ?_;rintro e w2 ⟨rfl,nb,hnb,hT2,hC2⟩;have p0':w2.cell? ⟨w.heap.size,0,none⟩=some (.pointer (some ⟨tb,0,none⟩)):=hC2.cell p0 (fun hb=>absurd (HPL.out _ hb) (by simp));have hsb:=opT_same T ⟨kind,node,client,inc,req,ver,key,code⟩ nb;have k7:=hT2.c7;have htb4:=hT2.tlt;have HT2:=Lib.hid hT2;have HSB:=Lib.hid hsb;have HDT:Hid (cleanT (opT T ⟨kind,node,client,inc,req,ver,key,code⟩ nb)=doT T ⟨kind,node,client,inc,req,ver,key,code⟩ nb):=(show _=_ from rfl);have CH:Chg w w2 (T.blocks tb):=((Chg.of_grown HG.out (T.blocks tb)).grown (grown_drew (grown_refl _))).trans hC2 (fun b hb=>Or.inl hb);have HCH:=Lib.hid CH;have HNB:Hid (w.heap.size≤nb):=(show _≤_ from Nat.le_trans HG.out.size hnb);clear hT2 hsb hC2 CH hnb p0 q0 q1 q2 q3 q4 q5 q6 q7;generalize opT T ⟨kind,node,client,inc,req,ver,key,code⟩ nb=T2 at *)
 have eg1:∀args w,(callFunc 68 args).run Tryz.prog w = .ok (.enter 68 args) w:=enters_of Tryz.func68 (by kernel_rfl) rfl
 have hbx:w.heap.size≠T2.hb:=by have e:T2.hb=T.hb:=HSB.out.hb;have:=HPL.out T.hb (by simp[Tab.blocks]);omega
 have hbx2:w.heap.size≠T2.rb:=by have e:T2.rb=T.rb:=HSB.out.rb;have:=HPL.out T.rb (by simp[Tab.blocks]);omega
 refine(delSets T2.hb T2.holds (struckH T2) 68 #[.pointer (some ⟨w.heap.size,0,none⟩)] w2 eg1 HT2.out.holds (fun W k v hW hk=>do1_any (HT2.out.vh hW) k v (HT2.out.seth hW hk) w.heap.size (hW.cell p0' (by simpa using hbx)))).mono ?_
 rintro e w3 ⟨rfl,hm3,hg3⟩
 clear eg1
 have eg2:∀args w,(callFunc 69 args).run Tryz.prog w = .ok (.enter 69 args) w:=enters_of Tryz.func69 (by kernel_rfl) rfl
 have T3:=HT2.out.filterH _ hm3 hg3
 have p0'':w3.cell? ⟨w.heap.size,0,none⟩=some (.pointer (some ⟨tb,0,none⟩)):=hg3.cell p0' (by simpa using hbx)
 have k8:=T3.c8
 have htb5:=T3.tlt
 have HT3:=Lib.hid T3
 have HE2:=Lib.hid eg2
 clear T3 k7 p0' eg2
 simp only at k8
 go_wp2_with fail
 refine(delSets T2.rb T2.refuses (struckR T2) 69 #[.pointer (some ⟨w.heap.size,0,none⟩)] w3 HE2.out HT3.out.refuses (fun W k v hW hk=>do2_any (T:={ T2 with holds:=T2.holds.filter (fun p=>!struckH T2 p.1 p.2) }) (HT3.out.vr hW) k v (HT3.out.setr hW hk) w.heap.size (hW.cell p0'' (by simpa using hbx2)))).mono ?_
 rintro e w4 ⟨rfl,hm4,hg4⟩
 have T4:=HT3.out.filterR _ hm4 hg4
 have HT4:=Lib.hid T4
 clear T4 k8 p0''
 go_wp2
 go_ret
 refine⟨rfl,nb,HNB.out,?_,?_⟩
 ·rw[←HDT.out];exact HT4.out
 ·have e1:T2.hb=T.hb:=HSB.out.hb
  have e2:T2.rb=T.rb:=HSB.out.rb
  exact(HCH.out.turned hg3 (Or.inl (by rw[e1];simp[Tab.blocks]))).turned hg4 (Or.inl (by rw[e2];simp[Tab.blocks]))
end
def clampN (n:Int):Int:=if n<1 then 1 else if 255<n then 255 else n
def clampW (N:Nat) (w:Int):Int:=if w<1 then 1 else if (N:Int)<w then N else w
def newT (N:Nat) (w:Int) (b:Nat):Tab:=⟨clampW N w,0,1,List.replicate N 0,[],[],[],[],[],b,b+1,b+2,b+3,b+4,b+5⟩
theorem info_i64:(Tryz.prog.info? 2).map (fun i=>(i.zero,i.size,i.bytes))=some (some (.int .i64 0),1,8):=by kernel_rfl
theorem mapT_made' {K V:Type} (W:World) (b:Nat) (hb:b=W.heap.size) (ek:K→Value) (ev:V→Value):MapT (W.alloc (.map #[] 0)) b ek ev ([]:List (K × V)):=hb ▸ mapT_made W ek ev
theorem made_cells (N:Nat):madeCells #[.int .i64 0] N=((List.replicate N (0:Int)).map (Value.int .i64)).toArray:=by
 apply Array.ext
 ·simp[madeCells]
 ·intro i h1 h2
  simp[madeCells,Nat.mod_one]
theorem new_rep (w:World) (N:Nat) (wi:Int) :
  TRep (((((((w.alloc (.cells (madeCells #[.int .i64 0] N) 2)).alloc (.map #[] 0)).alloc (.map #[] 0)).alloc (.map #[] 0)).alloc (.map #[] 0)).alloc (.map #[] 0)).alloc
   (.cells #[.int .i64 (clampW N wi),.int .i64 0,.int .i64 1,.slice (some ⟨w.heap.size,0,none⟩) N N,.map (some (w.heap.size+1)),.map (some (w.heap.size+2)),.map (some (w.heap.size+3)),.map (some (w.heap.size+4)),.map (some (w.heap.size+5))] 122)) (w.heap.size+6) (newT N wi w.heap.size) where
 cells:=by
  have:=(MapKept.heap_alloc ((((((w.alloc (.cells (madeCells #[.int .i64 0] N) 2)).alloc (.map #[] 0)).alloc (.map #[] 0)).alloc (.map #[] 0)).alloc (.map #[] 0)).alloc (.map #[] 0)) (.cells #[.int .i64 (clampW N wi),.int .i64 0,.int .i64 1,.slice (some ⟨w.heap.size,0,none⟩) N N,.map (some (w.heap.size+1)),.map (some (w.heap.size+2)),.map (some (w.heap.size+3)),.map (some (w.heap.size+4)),.map (some (w.heap.size+5))] 122)).1
  simp only[World.size_alloc] at this
  rw[show w.heap.size+6=w.heap.size+1+1+1+1+1+1 from rfl,this]
  simp[Tab.cells,newT]
 lives:=by
  have h0:=(MapKept.heap_alloc w (.cells (madeCells #[.int .i64 0] N) 2)).1
  rw[Below.heap_alloc _ _ _ (by simp[newT];omega),Below.heap_alloc _ _ _ (by simp[newT];omega),Below.heap_alloc _ _ _ (by simp[newT];omega),Below.heap_alloc _ _ _ (by simp[newT];omega),Below.heap_alloc _ _ _ (by simp[newT];omega),Below.heap_alloc _ _ _ (by simp[newT])]
  rw[show(newT N wi w.heap.size).lb=w.heap.size from rfl,h0,made_cells]
  rfl
 calls:=by
  refine MapT.alloc (MapT.alloc (MapT.alloc (MapT.alloc (MapT.alloc ?_ _) _) _) _) _
  exact mapT_made' _ _ (by simp[newT]) _ _
 values:=by
  refine MapT.alloc (MapT.alloc (MapT.alloc (MapT.alloc ?_ _) _) _) _
  exact mapT_made' _ _ (by simp[newT]) _ _
 pending:=by
  refine MapT.alloc (MapT.alloc (MapT.alloc ?_ _) _) _
  exact mapT_made' _ _ (by simp[newT]) _ _
 holds:=by
  refine MapT.alloc (MapT.alloc ?_ _) _
  exact mapT_made' _ _ (by simp[newT]) _ _
 refuses:=by
  refine MapT.alloc ?_ _
  exact mapT_made' _ _ (by simp[newT]) _ _
 hsets:=fun x hx=>by cases hx
 rsets:=fun x hx=>by cases hx
 nodup:=by
  simp[Tab.blocks,newT]
set_option maxHeartbeats 4000000 in
set_option maxRecDepth 100000 in
theorem new_any (nodes wi:Int) (N:Nat) (hN:(N:Int)=clampN nodes) (w:World) :
  Calls Tryz.prog 30 #[.int .i64 nodes,.int .i64 wi] w fun e w'=>∃tb,e = .returned (.pointer (some ⟨tb,0,none⟩))∧w.heap.size≤tb∧TRep w' tb (newT N wi w.heap.size)∧w.grownBy w' none:=by
 have hN1:1≤N:=by unfold clampN at hN;split at hN <;> (try split at hN) <;> omega
 have hN2:N≤255:=by unfold clampN at hN;split at hN <;> (try split at hN) <;> omega
 have hmk:=run_make_row' (P:=Tryz.prog) 46 2 (.int .i64 0) 8 Tryz.underlying46 info_i64 rfl .i64 .i64 N (by omega) (by omega)
 have hmm:=@run_makeMap Tryz.prog
 have HN:=Lib.hid hN
 clear hN
 go_enter Tryz.func30,Tryz.ntmps30
 go_upto_region 1 with fail
 go_cut [5] (fun s wx=>s = .int .i64 N∧wx=w)
 case first=>
  clear hmk hmm
  go_wp2
  all_goals (go_meet;refine⟨?_,rfl⟩;have:=HN.out;unfold clampN at this;congr 1;(repeat (split at this)) <;> omega)
 case rest=>
  obtain⟨rfl,rfl⟩:=hcut
  go_wp2
  all_goals
   go_ret
   refine⟨wc.heap.size+6,rfl,by omega,?_,by repeat (first|exact grown_refl _|exact World.grownBy_alloc _ _ _|refine grown_alloc ?_ _)⟩
   first
    | (have h:=new_rep wc N wi;rw[show clampW N wi=1 from by unfold clampW;(repeat split) <;> omega] at h;exact h)
    | (have h:=new_rep wc N wi;rw[show clampW N wi=(N:Int) from by unfold clampW;(repeat split) <;> omega] at h;exact h)
    | (have h:=new_rep wc N wi;rw[show clampW N wi=wi from by unfold clampW;(repeat split) <;> omega] at h;exact h)
end Go.Proofs.YtjfelfjobeeenaaGreat
namespace Go.Sf
open Go.MapKept Go.RowKit Go.Maps
open Go.WideElems (Fit rd rg)
def anyElem:Value→Option (DataW Unit × List MemPlace):=fun _=>some (.nil,[])
theorem MapT.owns {P:Program} {k:TypeId} {K V:Type} {ek:K→Value} {ev:V→Value} {w:World} {b:Nat} {m:List (K × V)} (h:MapT w b ek ev m) (kl:K→Lit) (hk:∀p∈m,keyOf P k (ek p.1)=some (kl p.1)) (hl:m.length≤maxLen) :
  ∃E,w.ownsMap P k anyElem b m.length (.map E)∧E.Perm (m.map fun p=>(kl p.1,(DataW.nil:DataW Unit))):=by
 obtain⟨es,clock,hb,hs,he⟩:=h
 have hsz:es.size=m.length:=by have:=congrArg List.length he;simpa using this
 have hrd:∀x∈es.toList,∀p∈m,x.key=ek p.1→rd P k anyElem x=some (kl p.1,.nil):=fun x hx p hp e=>by
  unfold rd
  rw[e,hk p hp]
  rfl
 refine⟨(es.toList.map (rg P k anyElem)).foldr DataW.insert [],⟨es,clock,hb,⟨by omega,hs,fun x hx=>?_⟩,by omega,rfl⟩,(WideShapes.sorted_perm _).trans ?_⟩
 ·obtain⟨p,hp,e1,_⟩:=pairs_key he x hx
  exact⟨_,hrd x hx p hp e1⟩
 ·have:es.toList.map (rg P k anyElem)=m.map fun p=>(kl p.1,(DataW.nil:DataW Unit)):=by
   apply List.ext_getElem?
   intro i
   simp only[List.getElem?_map]
   cases hi:es.toList[i]? with
   | none=>
    have:m[i]? = none:=by
     rw[List.getElem?_eq_none_iff] at hi ⊢
     simpa[hsz] using hi
    rw[this];rfl
   | some x=>
    obtain⟨p,hp,e1,_⟩:=pairs_get he hi
    rw[hp]
    simp only[Option.map_some]
    unfold rg
    rw[hrd x (List.mem_of_getElem? hi) p (List.mem_of_getElem? hp) e1]
    rfl
  rw[this]
end Go.Sf
