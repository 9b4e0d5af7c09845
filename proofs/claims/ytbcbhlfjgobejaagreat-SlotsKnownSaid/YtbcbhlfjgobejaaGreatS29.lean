/- Rows of what a store has to have; without(): the walk. Conditions: none, or as the theorems say. -/
import Derived.Test.YtbcbhlfjgobejaaGreatS26
import Derived.Test.YtbcbhlfjgobejaaGreatS28
set_option linter.unusedSimpArgs false
set_option linter.unusedVariables false
namespace Go.Proofs.YtbcbhlfjgobejaaGreat
set_option maxHeartbeats 200000000
open Go.RowKit Go.Sf Go.Shelf
variable {d:Dk} {all l now:List (Int × List Int)} {b fates:List Int} {c cap db i k n st:Nat} {own:Nat→Prop} {p q:Option Addr} {S:Sto} {a v:Value} {W w w' w3:World}
def Zq (q:Int × List Int):List Value:=[.int .i64 q.1,.string (ofB q.2)]
theorem jh (q:Int × List Int):(Zq q).length=2:=rfl
theorem Qa (q:Int × List Int):∀u∈Zq q,u.oneCell'=true:=λu hu=>by
 simp only[Zq,List.mem_cons,List.not_mem_nil,or_false] at hu
 rcases hu with rfl|rfl <;> rfl
def Zg (w:World) (v:Value) (l:List (Int × List Int)):Prop:=yl w 54 2 Zq v l
theorem hinfo:∃(i:TypeInfo) (z:Value) (by_:Nat),Tryz.prog.info? 54=some i∧i.zero=some z∧i.size=2∧i.bytes=by_∧z.cells.size=2∧by_≤1000:=by
 have h:((Tryz.prog.info? 54).bind λi=>i.zero.map λz=>(i.size,decide (i.bytes≤1000),z.cells.size))=some (2,true,2):=by kernel_rfl
 cases hi:Tryz.prog.info? 54 with
 | none=>rw[hi] at h;cases h
 | some i=>
  rw[hi] at h
  cases hz:i.zero with
  | none=>simp[hz] at h
  | some z=>
   simp[hz] at h
   exact⟨i,z,_,rfl,hz,h.1,rfl,h.2.2,h.2.1⟩
theorem Zg.y (h:Zg w v l):Zh w Zq v l:=by
 have h0:w.ownsRow 0 54 2 v l.length (l.flatMap Zq):=h
 rcases h0.2 with ⟨rfl,hn⟩|⟨g,c,cur,rfl,_⟩
 ·exact⟨none,0,by rw[hn],Or.inl (List.eq_nil_of_length_eq_zero hn)⟩
 ·refine⟨_,_,rfl,Or.inr ⟨_,rfl,λj u hu=>?_⟩⟩
  exact h0.cells (g:=g) rfl j u hu
theorem zdo (w:World):Zg w (.slice none 0 0) []:=⟨rfl,Or.inl ⟨rfl,rfl⟩⟩
theorem Zh.part (h:Zh w Zq (.slice p n cap) l) (lo:Nat) (hlo:lo≤l.length) (hk:k=l.length-lo) (hq:k≠0→q=p.map λa=>a.add (lo*2)):Zh w Zq (.slice q k c) (l.drop lo):=by
 obtain⟨p',cap',e,hc⟩:=h
 injection e with e1 e2 e3
 subst e1 e2 e3;refine⟨q,c,by rw[List.length_drop,hk],?_⟩
 rcases Nat.eq_zero_or_pos k with h0|h0
 ·left;exact List.drop_of_length_le (by omega)
 ·right
  rw[hq (by omega)]
  rcases hc with h1|⟨a,rfl,h1⟩
  ·rw[h1] at hk;simp at hk;omega
  ·refine⟨_,rfl,λj u hu=>?_⟩
   rw[Addr.add_add];refine h1 _ _ ?_;have e2:l.flatMap Zq=(l.take lo).flatMap Zq++(l.drop lo).flatMap Zq:=by rw[←List.flatMap_append,List.take_append_drop]
   rw[e2,List.getElem?_append_right (by rw[Xc Zq 2 jh,List.length_take];omega),Xc Zq 2 jh,List.length_take]
   rw[←hu]
   congr 1
   omega
theorem Zh.take (h:Zh w Zq (.slice p n cap) l) (k:Nat) (hk:k≤l.length) (hq:k≠0→q=p):Zh w Zq (.slice q k c) (l.take k):=by
 obtain⟨p',cap',e,hc⟩:=h
 injection e with e1 e2 e3
 subst e1 e2 e3;refine⟨q,c,by rw[List.length_take];congr 1;omega,?_⟩
 rcases Nat.eq_zero_or_pos k with h0|h0
 ·left;rw[h0];rfl
 ·right
  rw[hq (by omega)]
  rcases hc with h1|⟨a,rfl,h1⟩
  ·rw[h1] at hk;simp at hk;omega
  ·refine⟨_,rfl,λj u hu=>h1 _ _ ?_⟩
   have e2:l.flatMap Zq=(l.take k).flatMap Zq++(l.drop k).flatMap Zq:=by rw[←List.flatMap_append,List.take_append_drop]
   rw[e2,List.getElem?_append_left (List.getElem?_eq_some_iff.1 hu).1]
   exact hu
set_option maxRecDepth 100000 in
theorem zjt (h:Zg W v l) (k:Nat) (hk:k<l.length) (hl:l.length≤1000000) :
  Calls Tryz.prog 31 #[v,.int .i64 (k:Int)] W λe w'=>∃v',e = .returned v'∧Zg w' v' (l.take k++l.drop (k+1))∧W.grownBy w' none∧∀g,v'.ownBlock=some g→W.heap.size≤g:=by
 obtain⟨i0,z0,by0,hi,hz,hs,hb,hzs,hb2⟩:=hinfo;have HY:=zd h.y;have HH:=zd h;obtain⟨p,cap,e0,hcm,hlc⟩:=yl.form h;obtain⟨g,cap',rfl,-,-⟩:∃g cap,v = .slice (some ⟨g,0,none⟩) l.length cap∧True∧True:=(by
  rcases yl.at jh h with h0|⟨g,c,e,_⟩
  ·rw[h0] at hk;simp at hk
  ·exact⟨g,c,e,trivial,trivial⟩)
 obtain⟨rfl,rfl⟩:p=some ⟨g,0,none⟩∧cap=cap':=(by injection e0 with e1 _ e2;exact⟨e1.symm,e2.symm⟩)
 clear e0;have HL:=zd hl;obtain⟨n,hn⟩:∃n,n=l.length:=⟨_,rfl⟩;have HN:=zd hn;rw[←hn] at hk hl hlc ⊢;clear h hn;have H0:=zd (zdo W)
 go_enter Tryz.func31,Tryz.ntmps31
 go_upto_region 3 with (at_builtin;refine xn (E:=54) (sz:=2) (enc:=Zq) (v:=.slice none 0 0) (l:=[]) (m:=l.take k) _ rfl _ _ 46 rfl jh Qa i0 z0 by0 Tryz.underlying46 hi hz hs hb hzs (by decide) hb2 rfl H0.out rfl (Zh.take HY.out k (by rw[←HN.out];omega) (λ_=>rfl)) (by have:=HL.out;simp;omega) k (by rw[List.length_take,←HN.out];simp;omega) ?_;intro p1 c1 w1 hap;have HAP:=zd hap;clear hap)
 have hg1:W.grownBy w1 none:=HAP.out.2.1;have HY1:=zd (Zg.y (yl.grown HH.out hg1 (by simp)))
 have HG1:=zd hg1;have hr1:=HAP.out.1;rw[List.nil_append] at hr1;have HR1:=zd hr1;have HO1:Hid (∀b,(Value.slice p1 k c1).ownBlock=some b→W.heap.size≤b):=(λb hb=>by
  rcases HAP.out.2.2 with e|e
  ·rw[e] at hb;simp[Value.ownBlock] at hb
  ·rw[e] at hb;injection hb with hb;omega)
 have HKL:Hid ((l.take k).length=k):=(show _=_ from by rw[List.length_take,←HN.out];omega)
 clear hg1 HAP hr1 H0 HH HY
 go_wp2_with (at_builtin;refine xn (E:=54) (sz:=2) (enc:=Zq) (v:=.slice p1 k c1) (l:=l.take k) (m:=l.drop (k+1)) _ rfl _ _ 46 rfl jh Qa i0 z0 by0 Tryz.underlying46 hi hz hs hb hzs (by decide) hb2 rfl HR1.out rfl (Zh.part HY1.out (k+1) (by rw[←HN.out];omega) (by rw[←HN.out]) (λhne=>by first|(have hcc:¬cap=k+1:=(by omega);simp[Addr.add,hcc])|(simp[Addr.add];omega))) (by have:=HL.out;simp;omega) (k+(n-(k+1))) (by rw[HKL.out,List.length_drop,←HN.out]) ?_;intro p2 c2 w2 hap;have HAP:=zd hap;clear hap)
 all_goals go_ret
 all_goals (refine⟨_,rfl,HAP.out.1,xp HG1.out HAP.out.2.1 HO1.out,λb hb=>?_⟩)
 all_goals (rcases HAP.out.2.2 with e|e)
 all_goals first
  | exact HO1.out b (by rw[←e];exact hb)
  | (have hb2:some w1.heap.size=some b:=e.symm.trans hb;injection hb2 with hb2;have:=HG1.out.size;omega)
structure KR (W:World) (own:Nat→Prop) (st db:Nat) (S:Sto) (w:World):Prop where
 rep:Jk own w st db S
 old:∀k,k<W.heap.size→own k
 gr:W.grownBy w none
section
variable {W w w' : World} {own : Nat → Prop} {st db : Nat} {S : Sto}
theorem KR.grown (h:KR W own st db S w) (hg:w.grownBy w' none):KR W own st db S w':=⟨h.rep.kept hg,h.old,zh h.gr hg⟩
theorem KR.lt (h:KR W own st db S w) (hk:own k):k<w.heap.size:=by
 obtain⟨mb,tb,rv,rb,hs⟩:=h.rep
 exact hs.own_lt hk
theorem KR.more (h:KR W own st db S w) (hg:w.grownBy w' none):KR W (λk=>own k∨(w.heap.size≤k∧k<w'.heap.size)) st db S w':=by
 obtain⟨mb,tb,rv,rb,hs⟩:=h.rep
 exact⟨⟨mb,tb,rv,rb,hs.owns hg (λk hk=>hk.imp id λe=>e.1) (λk hk=>by
  rcases hk with e|e
  ·exact Nat.lt_of_lt_of_le (hs.own_lt e) hg.size
  ·exact e.2)⟩,λk hk=>Or.inl (h.old k hk),zh h.gr hg⟩
theorem KR.put (h:KR W own st db S w) (hv:xw own w v (zg b)) (hb:BL b) (hl:b.length≤100000000) (hf:S.d.late.length+600<1000000) :
  Calls Tryz.prog 20 #[.pointer (some ⟨st,0,none⟩),v] w λe w'=>e = .returned (.tuple #[.int .i64 (S.put b).2.1,.int .i64 (S.put b).2.2])∧KR W own st db (S.put b).1 w'∧zm (λk=>¬own k) w w':=by
 obtain⟨mb,tb,rv,rb,hs⟩:=h.rep;refine(sput hs hv hb hl hf).mono ?_;rintro e w' ⟨rfl,hr,ht⟩
 exact⟨rfl,⟨hr,h.old,xa h.gr h.old ht⟩,ht⟩
theorem KR.rem (h:KR W own st db S w) (k:Int) (hf:S.d.late.length<1000000) :
  Calls Tryz.prog 30 #[.pointer (some ⟨st,0,none⟩),.int .i64 k] w λe w'=>e = .returned (.int .i64 (S.rem k).2)∧KR W own st db (S.rem k).1 w'∧zm (λk=>¬own k) w w':=by
 obtain⟨mb,tb,rv,rb,hs⟩:=h.rep;refine(zl6 hs k hf).mono ?_;rintro e w' ⟨rfl,hr,ht⟩
 exact⟨rfl,⟨⟨_,_,_,_,hr⟩,h.old,xa h.gr h.old ht⟩,ht⟩
theorem KR.get (h:KR W own st db S w) (k:Int):Calls Tryz.prog 21 #[.pointer (some ⟨st,0,none⟩),.int .i64 k] w λe w'=>w.grownBy w' none∧∃v,e = .returned (.tuple #[v,.bool (zw S.recs k).isSome])∧((zw S.recs k=none∧v = .slice none 0 0)∨∃r,zw S.recs k=some r∧jx w w' v r.1):=by
 obtain⟨mb,tb,rv,rb,hs⟩:=h.rep
 exact sget hs k
theorem KR.numbers (h:KR W own st db S w) (hk:∀r∈S.recs,1≤r.1∧r.1≤4611686018427387904) (hl:S.recs.length≤1000000):Calls Tryz.prog 26 #[.pointer (some ⟨st,0,none⟩)] w λe w'=>w.grownBy w' none∧∃v,e = .returned v∧w'.ownsRow w.heap.size 2 1 v S.recs.length (((S.recs.map (·.1)).mergeSort λx y=>decide (x≤y)).map (Value.int .i64)):=by
 obtain⟨mb,tb,rv,rb,hs⟩:=h.rep
 exact zek hs hk hl
theorem KR.next (h:KR W own st db S w):Calls Tryz.prog 29 #[.pointer (some ⟨st,0,none⟩)] w λe w'=>e = .returned (.int .i64 S.next)∧w'=w:=by
 obtain⟨mb,tb,rv,rb,hs⟩:=h.rep
 exact snext hs
theorem KR.fail (h:KR W own st db S w) (n:Int) (hn:n<9223372036854775808):Calls Tryz.prog 28 #[.pointer (some ⟨db,0,none⟩),.int .i64 n] w λe w'=>e = .returned (.tuple #[])∧KR W own st db { S with d:=S.d.failed n } w'∧zm (λk=>¬own k) w w':=by
 obtain⟨mb,tb,rv,rb,hs⟩:=h.rep;refine(dfail hs.disk n hn).mono ?_;rintro e w' ⟨rfl,hd,ht⟩
 exact⟨rfl,⟨⟨_,_,_,_,hs.turned hd ht rfl⟩,h.old,xa h.gr h.old (Qz ht)⟩,Qz ht⟩
theorem KR.off (h:KR W own st db S w):Calls Tryz.prog 33 #[.pointer (some ⟨db,0,none⟩)] w λe w'=>e = .returned (.bool S.d.off)∧w'=w:=by
 obtain⟨mb,tb,rv,rb,hs⟩:=h.rep
 exact doff hs.disk
theorem KR.on (h:KR W own st db S w) {fv:Value} (hf:zx W fv fates) (hb:BL fates) (hl:fates.length≤1000000):Calls Tryz.prog 34 #[.pointer (some ⟨db,0,none⟩),fv] w λe w'=>e = .returned (.tuple #[])∧vk own w' db (S.d.on fates)∧W.grownBy w' none∧zm (λk=>¬own k) w w':=by
 obtain⟨mb,tb,rv,rb,hs⟩:=h.rep;refine(don (hs.disk.less λk hk=>Or.inl hk) (λw1 ht=>hf.grown (xa h.gr h.old ht) (by simp)) hb hl).mono ?_
 rintro e w' ⟨rfl,hd,ht⟩
 exact⟨rfl,hd,xa h.gr h.old ht,ht⟩
end
theorem zbl (hg:W.grownBy w none) (ho:∀k,k<W.heap.size→own k) (hd:vk own w db d) (hs:xd d) (hl:d.late.length+d.n<1000000) :
  Calls Tryz.prog 18 #[.pointer (some ⟨db,0,none⟩)] w λe w'=>∃st ks,e = .returned (.tuple #[.pointer (some ⟨st,0,none⟩),.int .i64 0])∧jc d ks∧KR W own st db (openS d ks) w'∧zm (λk=>¬own k) w w':=by
 refine(zl5 hd hs.1 hl).mono ?_;rintro e w' ⟨ht,hp⟩
 rcases hp with ⟨h1,_⟩|⟨_,st,ks,rfl,hk,hss⟩
 ·exact absurd hs.opened h1
 ·exact⟨st,ks,rfl,hk,⟨hss,ho,xa hg ho ht⟩,ht⟩
theorem Zg.turn (h:Zg w v l) (ho:∀g,v.ownBlock=some g→own g) (ht:zm (λk=>¬own k) w w'):Zg w' v l:=
 yl.same h λg hg=>ht.block g (yl.lt h hg) (λe=>e (ho g hg))
theorem Zg.kept (h:Zg w v l) (hg:w.grownBy w' none):Zg w' v l:=yl.grown h hg (by simp)
theorem zfd (W:World) (s:ByteArray) (hs:s.size≤1000000):∃y W2,(convert 9 32 (.string s)).run Tryz.prog W = .ok y W2∧W.grownBy W2 none∧xw (λk=>W.heap.size≤k∧k<W2.heap.size) W2 y (zg (yz s)):=by
 refine⟨_,_,Lib.run_convert_string_bytes (P:=Tryz.prog) W 9 32 5 s (u:=.string) Tryz.underlying9 Tryz.underlying32 Tryz.underlying5,zcb _ _ _,?_⟩;obtain⟨p,cap,e,hc⟩:=(zci W s).ex
 injection e with e1 e2 e3
 have hge:=grownCap_ge W s.size 0 5;have hle:=grownCap_le_maxLen W s.size 0 5 (by unfold maxLen;omega)
 unfold maxLen at hle;have hsz:W.heap.size<(Lib.bytesWorld W 5 s).heap.size:=by
  unfold Lib.bytesWorld World.freeze
  split <;> simp
 refine⟨some ⟨W.heap.size,0,none⟩,grownCap W s.size 0 5,by rw[zu,yt],by rw[zu,yt];exact hge,by omega,?_⟩
 rcases hc with h0|⟨a,h1,h2⟩
 ·left;rw[h0];rfl
 ·right
  rw[←e1] at h1
  injection h1 with h1
  subst h1
  exact⟨_,rfl,⟨Nat.le_refl _,hsz⟩,h2⟩
theorem zf4 {base sz:Nat} {e:TypeId} {xs:List Value} (h:w.ownsRow base e sz v n xs):∃p c,v = .slice p n c:=by
 rcases h.2 with ⟨hv,h1⟩|⟨gg,cap,cur,hv,_⟩
 ·exact⟨none,0,by rw[hv,h1]⟩
 ·exact⟨_,cap,hv⟩
set_option maxRecDepth 100000 in
theorem zky (h:KR W own st db S w) (hk:∀r∈S.recs,1≤r.1∧r.1≤4611686018427387904) (hl:S.recs.length≤1000000) (hv:Zg w v l) (hne:S.recs.length≠l.length) :
  Calls Tryz.prog 35 #[.pointer (some ⟨st,0,none⟩),v] w λe w'=>e = .returned (.bool false)∧w.grownBy w' none:=by
 have HNU:=zd (h.numbers hk hl);obtain⟨p,cap,rfl,hcm,hlc⟩:=yl.form hv;generalize S.recs.length=n at *;generalize (((S.recs.map (·.1)).mergeSort λx y=>decide (x≤y)).map (Value.int .i64))=xs at *
 generalize l.length=m at *;clear h hk hv;have hnm:((n:Int)=(m:Int))=False:=by simp;omega
 go_enter Tryz.func35,Tryz.ntmps35
 go_upto_region 2 with (go_at_call 26;refine HNU.out.mono ?_;rintro e w1 ⟨hg,v1,rfl,hv1⟩;have HG:=zd hg;clear hg HNU;obtain⟨p1,c1,rfl⟩:=zf4 hv1;clear hv1)
 go_wp2
 go_ret
 exact⟨rfl,HG.out⟩
theorem zjh {blk:Int→List Nat} (hr:S.recs=all.map λq=>(q.1,(q.2,blk q.1))) (hs:(all.map (·.1)).Pairwise (·< ·)):((S.recs.map (·.1)).mergeSort λx y=>decide (x≤y))=all.map (·.1):=by
 have e:S.recs.map (·.1)=all.map (·.1):=by rw[hr,List.map_map];rfl
 rw[e];refine List.mergeSort_of_pairwise (hs.imp λ{a b} h=>?_)
 simp;omega
set_option maxRecDepth 100000 in
theorem zbv (h:KR W own st db S w) {blk:Int→List Nat} (hr:S.recs=all.map λq=>(q.1,(q.2,blk q.1))) (hg:uw zo (bk S.d.now) S.d.n all blk S.next) (hn:S.next≤4611686018427387904) (hl:all.length≤1000000) (hv:Zg w v all) :
  Calls Tryz.prog 35 #[.pointer (some ⟨st,0,none⟩),v] w λe w'=>e = .returned (.bool true)∧w.grownBy w' none:=by
 have hnu:=h.numbers (λr hr2=>by
  rw[hr] at hr2;obtain⟨q,hq,rfl⟩:=List.mem_map.1 hr2;have:=hg.key hq;simp only;omega) (by rw[hr,List.length_map];exact hl)
 rw[zjh hr hg.srt,show S.recs.length=all.length by rw[hr,List.length_map]] at hnu
 have HNU:=zd hnu;have HGE:Hid (∀(w1:World),w.grownBy w1 none→∀(i:Nat) (hi:i<all.length),Calls Tryz.prog 21 #[.pointer (some ⟨st,0,none⟩),.int .i64 all[i].1] w1 λe w'=>w1.grownBy w' none∧∃p c,e = .returned (.tuple #[.slice p all[i].2.length c,.bool true])∧jx w1 w' (.slice p all[i].2.length c) all[i].2):=(λw1 hg1 i hi=>by
  have hm:zw S.recs all[i].1=some (all[i].2,blk all[i].1):=by
   have hq:=List.getElem_mem hi
   cases e:zw S.recs all[i].1 with
   | none=>
    exfalso
    refine uz.1 e (all[i].1,(all[i].2,blk all[i].1)) ?_ rfl;rw[hr]
    exact List.mem_map.2 ⟨_,hq,rfl⟩
   | some r=>
    have hm:=qj e;rw[hr] at hm;obtain⟨q',hq',e'⟩:=List.mem_map.1 hm
    injection e' with e1 e2
    have:=hg.uniq hq' hq e1;rw[this] at e2;rw[←e2]
  refine((h.grown hg1).get all[i].1).mono ?_;rw[hm];rintro e w' ⟨hg2,v,rfl,⟨h0,-⟩|⟨r,h0,hr2⟩⟩
  ·cases h0
  ·cases h0
   rcases hr2.2 with ⟨rfl,h0⟩|⟨g,c,cur,rfl,_⟩
   ·have h0:(all[i].2).length=0:=h0
    refine⟨hg2,none,0,?_,?_⟩
    ·rw[h0];rfl
    ·rw[h0];exact hr2
   ·exact⟨hg2,_,_,rfl,hr2⟩)
 have HV:=zd hv;obtain⟨p,cap,rfl,hcm,hlc⟩:=yl.form hv;obtain⟨m,hm⟩:∃m,m=all.length:=⟨_,rfl⟩;have HM:=zd hm;rw[←hm] at HNU hl hlc ⊢;clear h hr hg hn hv hnu hm
 go_enter Tryz.func35,Tryz.ntmps35
 go_upto_region 2 with (go_at_call 26;refine HNU.out.mono ?_;rintro e w1 ⟨hg,v1,rfl,hv1⟩;have HG:=zd hg;have HN1:=zd hv1;clear hg HNU;obtain⟨p1,c1,rfl⟩:=zf4 hv1;clear hv1)
 go_wp2
 go_loopw [6] (λi wr=>w1.grownBy wr none∧∃k:Nat,k≤m∧i = .int .i64 k) (λi _=>m-(intOf i).toNat)
 case atStart=>exact⟨zi _,0,by omega,rfl⟩
 case round=>
  obtain⟨hg,k,hk,rfl⟩:=hrel
  by_cases hkm:k<m
  ·have hkl:k<all.length:=by rw[←HM.out];exact hkm
   have HG2:=zd (zh HG.out hg);have HGT:=zd (HGE.out wr HG2.out k hkl);obtain⟨g1,hp,cK,cB,n1,hp1,cN⟩:∃g,p=some ⟨g,0,none⟩∧wr.cell? ⟨g,k*2,none⟩=some (.int .i64 all[k].1)∧wr.cell? ⟨g,k*2+1,none⟩=some (.string (ofB all[k].2))∧∃n1,p1=some ⟨n1,0,none⟩∧wr.cell? ⟨n1,k,none⟩=some (.int .i64 all[k].1):=by
    obtain⟨g,c,e,hc,-⟩:∃g c,(Value.slice p m cap) = .slice (some ⟨g,0,none⟩) all.length c∧(∀i,(hi:i<all.length)→∀j u,(Zq all[i])[j]? = some u→w.cell? ⟨g,i*2+j,none⟩=some u)∧True:=(by
     rcases yl.at jh HV.out with h0|⟨g,c,e,hc,_⟩
     ·rw[h0] at hkl;simp at hkl
     ·exact⟨g,c,by rw[HM.out];exact e,hc,trivial⟩)
    injection e with e1 e2 e3
    have hgw:=HG2.out;refine⟨g,e1,hgw.cell (hc k hkl 0 _ rfl) (by simp),hgw.cell (hc k hkl 1 _ rfl) (by simp),?_⟩
    rcases HN1.out.2 with ⟨e4,h0⟩|⟨n1,c2,cur,e4,hb,hh,hx1,hx2,hx3,hx4⟩
    ·omega
    ·injection e4 with e5 e6 e7
     refine⟨n1,e5,?_⟩;have h1:=HN1.out.cells (g:=n1) (by rw[e5];rfl) (j:=k) (u:=.int .i64 all[k].1) (by simp[hkl])
     rw[ut] at h1
     exact hg.cell h1 (by simp)
   subst hp hp1;have hb1:=xi cK;have hb2:=xi cN;generalize all[k]=q at *;obtain⟨qk,qb⟩:=q;simp only at cK cB cN HGT hb1 hb2;have HGR:=zd hg;clear hg
   go_upto_region 8 with (go_at_call 21;refine HGT.out.mono ?_;rintro e w2 ⟨hg2,p2,c2,rfl,hnr⟩;have HGX:=zd hg2;have HNR:=zd hnr;clear hg2 hnr HGT)
   have cK2:=HGX.out.cell cK (by simp)
   have cB2:=HGX.out.cell cB (by simp)
   have cN2:=HGX.out.cell cN (by simp)
   have hb3:=xi cK2;have hb4:=xi cN2;have hcv:∀x:Ext,(convert 32 9 (.slice p2 qb.length c2)).run Tryz.prog (ext w2 x) = .ok (.string (ofB qb)) (ext w2 x):=λx=>uh ((vw HNR.out).grown (ux w2 x) (by simp))
   have hcv0:(convert 32 9 (.slice p2 qb.length c2)).run Tryz.prog w2 = .ok (.string (ofB qb)) w2:=uh (vw HNR.out);clear cK cB cN hb1 hb2;refine ya (by kernel_rfl) (by kernel_rfl) ?_
   repeat (any_goals (first|go_big_quiet_step (fail)|quiet_step (fail)))
   refine wpQuiet_nil ?_;intro _ hw';obtain⟨xx,hw''⟩:=hw';subst hw'';have HG9:=zd (ux w2 xx);generalize ext w2 xx=w9 at *;go_wp2;refine⟨⟨zh HGR.out (zh HGX.out HG9.out),k+1,by omega,by simp⟩,by simp[intOf];omega⟩
  ·go_wp2
   go_ret
   exact⟨rfl,zh HG.out hg⟩
section
variable {own : Nat → Prop} {W W' : World} {db sb nb : Nat} {lv : Value} {d : Dk} {r : Option Nat}
theorem DAt.pokeM (h:DAt own W db sb nb lv d) (ho:∀g,r=some g→own g) (hg:W.grownBy W' r) {own':Nat→Prop} (h1:∀k,own' k→own k∨W.heap.size≤k) (h2:∀k,own' k→k<W'.heap.size):DAt own' W' db sb nb lv d:=by
 have hdb:=h.dlt;have hsb:=h.st.lt;have hnb:=h.now.lt;refine⟨(hg.block db h.dlt (λe=>h.odb (ho _ e.symm))).trans h.box,h.st.kept hg (λe=>h.osb (ho _ e.symm)),h.now.kept hg (λe=>h.onb (ho _ e.symm)),h.late.kept hg ?_,h.sn,λe=>(h1 _ e).elim h.odb (λe=>by omega),λe=>(h1 _ e).elim h.osb (λe=>by omega),λe=>(h1 _ e).elim h.onb (λe=>by omega),λg hg2 e=>(h1 _ e).elim (h.olv g hg2) (λe=>by have:=(h.late.lt g hg2).2;omega),h2,h.n,h.w0,h.w1,h.bst,h.bnow,h.blate,h.few⟩
 rcases h3:lv.ownBlock with _|k
 ·exact Or.inl rfl
 ·exact Or.inr (λe=>h.olv k h3 (ho _ e.symm))
theorem KR.pokeM (h:KR W own st db S w) (ho:∀g,r=some g→own g∧W.heap.size≤g) (hg:w.grownBy w' r):KR W (λk=>own k∨(w.heap.size≤k∧k<w'.heap.size)) st db S w':=by
 obtain⟨mb,tb,rv,rb,hs⟩:=h.rep;obtain⟨sb,nb,lv,hd⟩:=hs.disk.ex;have ha:=λg e=>hs.away g (ho g e).1
 have h1:=hs.st_lt;have h2:=hs.mb_lt;have h3:=hs.tb_lt;have h4:=λk hk=>@SAt.rb_lt _ _ _ _ _ _ _ _ _ hs k hk
 have hd':=hd.pokeM (λg e=>Or.inl (ho g e).1) hg (own':=ownS (λk=>own k∨(w.heap.size≤k∧k<w'.heap.size)) st mb tb rb) (λk hk=>by
  rcases hk with (e|e)|e|e|e|e
  ·exact Or.inl (Or.inl e)
  ·exact Or.inr e.1
  ·exact Or.inl (Or.inr (Or.inl e))
  ·exact Or.inl (Or.inr (Or.inr (Or.inl e)))
  ·exact Or.inl (Or.inr (Or.inr (Or.inr (Or.inl e))))
  ·exact Or.inl (Or.inr (Or.inr (Or.inr (Or.inr e))))) (λk hk=>by
  have hz:=hg.size
  rcases hk with (e|e)|e|e|e|e
  ·exact Nat.lt_of_lt_of_le (hs.own_lt e) hz
  ·exact e.2
  ·subst e;omega
  ·subst e;omega
  ·subst e;omega
  ·exact Nat.lt_of_lt_of_le (h4 k e) hz)
 refine⟨⟨mb,tb,rv,rb,⟨(hg.block st hs.st_lt (λe=>(ha st e.symm).1 rfl)).trans hs.box,hs.recs.kept hg (λe=>(ha mb e.symm).2.1 rfl),λq hq=>⟨(hs.rows q hq).1.turn λk hk=>hg.block k (h4 k hk) (λe=>(ha k e.symm).2.2.2 hk),(hs.rows q hq).2.turn λk hk=>hg.block k (h4 k hk) (λe=>(ha k e.symm).2.2.2 hk)⟩,(hg.block tb hs.tb_lt (λe=>(ha tb e.symm).2.2.1 rfl)).trans hs.tak,⟨sb,nb,lv,hd'⟩,λk hk=>?_,hs.rbs,hs.ok⟩⟩,λk hk=>Or.inl (h.old k hk),?_⟩
 ·rcases hk with e|e
  ·exact hs.away k e
  ·exact⟨by omega,by omega,by omega,λe2=>by have:=h4 k e2;omega⟩
 ·exact⟨hg.os.trans h.gr.os,hg.tape.trans h.gr.tape,hg.output.trans h.gr.output,Nat.le_trans h.gr.size hg.size,λk hk _=>(hg.block k (Nat.lt_of_lt_of_le hk h.gr.size) (λe=>by have:=(ho k e.symm).2;omega)).trans (h.gr.block k hk (by simp))⟩
end
theorem qr.grown {x:vn} (h:qr W x) (hg:W.grownBy w none):qr w x:=
 ⟨h.b.grown hg (by simp),h.bb,h.f.grown hg (by simp),h.fb,h.k,h.t,h.n,h.bl,h.fl⟩
def zn9 (w:World) (v:Value) (l:List Int):Prop:=∃p cap,v = .slice p l.length cap∧l.length≤9223372036854775807∧(∀x∈l,-9223372036854775808≤x∧x<9223372036854775808)∧(l = []∨∃b off,p=some ⟨b,off,none⟩∧∀i (hi:i<l.length),w.cell? ⟨b,off+i,none⟩=some (.int .i64 l[i]))
structure Zv (W:World) (own:Nat→Prop) (st db:Nat) (S:Sto) (all:List (Int × List Int)) (blk:Int→List Nat) (a:Value) (k:Nat) (w:World):Prop where
 kr:KR W own st db S w
 inv:Uo S all blk
 next:S.next≤(k:Int)+1
 n:S.d.n≤4096
 row:Zg w a all
 len:all.length≤k
 own_:∀g,a.ownBlock=some g→own g∧W.heap.size≤g
def KLoop (W:World) (m db:Nat) (s e a i:Value) (wr:World):Prop:=∃(own:Nat→Prop) (st:Nat) (S:Sto) (all:List (Int × List Int)) (blk:Int→List Nat) (k:Nat),k≤m∧i = .int .i64 (k:Int)∧e = .int .i64 0∧s = .pointer (some ⟨st,0,none⟩)∧Zv W own st db S all blk a k wr
section
variable {W w w' : World} {own : Nat → Prop} {st db : Nat} {S : Sto} {all : List (Int × List Int)} {blk : Int → List Nat} {a nv : Value} {k : Nat}
theorem Zv.failed (h:Zv W own st db S all blk a k w) (n:Int) (hk:KR W own st db { S with d:=S.d.failed n } w') (ht:zm (λk=>¬own k) w w'):Zv W own st db { S with d:=S.d.failed n } all blk a k w':=
 ⟨hk,h.inv.failed n,h.next,h.n,h.row.turn (λg hg=>(h.own_ g hg).1) ht,h.len,h.own_⟩
theorem Zv.grown (h:Zv W own st db S all blk a k w) (hg:w.grownBy w' none):Zv W own st db S all blk a k w':=
 ⟨h.kr.grown hg,h.inv,h.next,h.n,h.row.kept hg,h.len,h.own_⟩
theorem Zv.up (h:Zv W own st db S all blk a k w):Zv W own st db S all blk a (k+1) w:=
 ⟨h.kr,h.inv,by have:=h.next;omega,h.n,h.row,by have:=h.len;omega,h.own_⟩
theorem Zv.more (h:Zv W own st db S all blk a k w) (hg:w.grownBy w' none):Zv W (λk=>own k∨(w.heap.size≤k∧k<w'.heap.size)) st db S all blk a k w':=
 ⟨h.kr.more hg,h.inv,h.next,h.n,h.row.kept hg,h.len,λg hg2=>⟨Or.inl (h.own_ g hg2).1,(h.own_ g hg2).2⟩⟩
structure zbf (W:World) (own:Nat→Prop) (st db:Nat) (S:Sto) (all:List (Int × List Int)) (blk:Int→List Nat) (a:Value) (k:Nat) (nv:Value) (now:List (Int × List Int)) (w:World):Prop where
 mem:Zv W own st db S all blk a k w
 row:Zg w nv now
 own_:∀g,nv.ownBlock=some g→own g∧W.heap.size≤g∧a.ownBlock≠some g
theorem zbf.start (h:Zv W own st db S all blk a k w) (ha:Yg w 54 2 Zq (.slice none 0 0) ([]++all) nv w'):zbf W (λk=>own k∨(w.heap.size≤k∧k<w'.heap.size)) st db S all blk a k nv all w':=by
 obtain⟨h1,h2,h3⟩:=ha;rw[List.nil_append] at h1;have hg:w.grownBy w' none:=h2;refine⟨h.more hg,h1,λg hg2=>?_⟩
 have hl:=yl.lt h1 hg2
 rcases h3 with e|e
 ·rw[e] at hg2;simp[Value.ownBlock] at hg2
 ·rw[hg2] at e
  injection e with e
  have h5:=h.kr.gr.size;refine⟨Or.inr ⟨by omega,hl⟩,by omega,λe2=>?_⟩
  have:=yl.lt h.row e2;omega
theorem zbf.grown (h:zbf W own st db S all blk a k nv now w) (hg:w.grownBy w' none):zbf W own st db S all blk a k nv now w':=⟨h.mem.grown hg,h.row.kept hg,h.own_⟩
theorem zbf.more (h:zbf W own st db S all blk a k nv now w) (hg:w.grownBy w' none):zbf W (λk=>own k∨(w.heap.size≤k∧k<w'.heap.size)) st db S all blk a k nv now w':=
 ⟨h.mem.more hg,h.row.kept hg,λg hg2=>⟨Or.inl (h.own_ g hg2).1,(h.own_ g hg2).2⟩⟩
structure KOff (W:World) (own:Nat→Prop) (st db:Nat) (d:Dk) (S:Sto) (all now:List (Int × List Int)) (a nv:Value) (k:Nat) (w:World):Prop where
 kr:KR W own st db S w
 bad:∃n,n≤4096∧KBad S.d n now all ((k:Int)+1)
 row:Zg w a all
 nrow:Zg w nv now
 len:all.length≤k
 nlen:now.length≤k
 own_:∀g,a.ownBlock=some g→own g∧W.heap.size≤g
 nown:∀g,nv.ownBlock=some g→own g∧W.heap.size≤g
 ne:all.length≠now.length
def KMid (W:World) (st db:Nat) (all:List (Int × List Int)) (a:Value) (k:Nat) (nv f:Value) (w:World):Prop:=∃(own:Nat→Prop) (S:Sto) (now:List (Int × List Int)) (blk:Int→List Nat),
 (f = .int .i64 181∧Zv W own st db S all blk a k w)∨(f = .int .i64 0∧Zv W own st db S now blk nv k w)∨(f = .int .i64 180∧KOff W own st db S.d S all now a nv k w)
theorem zj6 (hs:(l.map (·.1)).Pairwise (·< ·)) (hi:i<l.length):(l.filter λr=>decide (r.1≠l[i].1))=l.take i++l.drop (i+1):=by
 have key:∀(l:List (Int × List Int)) (i:Nat) (hi:i<l.length),(l.map (·.1)).Pairwise (·< ·)→(l.filter λr=>decide (r.1≠l[i].1))=l.take i++l.drop (i+1):=by
  intro l
  induction l with
  | nil=>intro i hi;simp at hi
  | cons x t ih=>
   intro i hi hs;rw[List.map_cons,List.pairwise_cons] at hs
   cases i with
   | zero=>
    simp only[List.getElem_cons_zero,List.take_zero,List.nil_append,List.drop_succ_cons,List.drop_zero];rw[List.filter_cons_of_neg (by simp),List.filter_eq_self]
    intro y hy;have:=hs.1 y.1 (List.mem_map.2 ⟨y,hy,rfl⟩);simp;omega
   | succ i=>
    have hi':i<t.length:=by simpa using hi
    have:=hs.1 t[i].1 (List.mem_map.2 ⟨_,List.getElem_mem hi',rfl⟩);simp only[List.getElem_cons_succ,List.take_succ_cons,List.drop_succ_cons,List.cons_append];rw[List.filter_cons_of_pos (by simp;omega),ih i hi' hs.2]
 exact key l i hi hs
theorem zbf.rem (h:zbf W own st db S all blk a k nv now w) (hi:i<all.length) (hk:k≤60) {w2:World} {v3:Value} (hr:KR W own st db (S.rem all[i].1).1 w2) (ht:zm (λk=>¬own k) w w2)
 (hv:Zg w3 v3 (all.take i++all.drop (i+1))) (hg:w2.grownBy w3 none) (hn:∀g,v3.ownBlock=some g→w2.heap.size≤g):KMid W st db all a (k+1) v3 (.int .i64 (S.rem all[i].1).2) w3:=by
 have hmem:=List.getElem_mem hi;have hlen:=h.mem.len;have hfl:=zj6 h.mem.inv.good.srt hi;have hl2:(all.take i++all.drop (i+1)).length=all.length-1:=by rw[List.length_append,List.length_take,List.length_drop];omega
 have ha2:Zg w2 a all:=h.mem.row.turn (λg hg=>(h.mem.own_ g hg).1) ht
 have hno:∀g,v3.ownBlock=some g→(own g∨(w2.heap.size≤g∧g<w3.heap.size))∧W.heap.size≤g:=λg hg2=>by
  have h1:=hn g hg2;have h2:=yl.lt hv hg2;have h3:=h.mem.kr.gr.size;have h4:=ht.size
  exact⟨Or.inr ⟨h1,h2⟩,by omega⟩
 have hnx:=h.mem.next;have hn4:=h.mem.n
 rcases h.mem.inv.rem hmem with ⟨S',e,hi1,hi2,hi3⟩|⟨S',e,hb⟩
 ·rw[e] at hr ⊢
  rw[hfl] at hi1;refine⟨_,S',_,blk,Or.inr (Or.inl ⟨rfl,hr.more hg,hi1,by rw[hi2];omega,by rw[hi3];exact hn4,hv,by rw[hl2];omega,hno⟩)⟩
 ·rw[e] at hr ⊢
  rw[hfl] at hb;refine⟨_,S',all.take i++all.drop (i+1),blk,Or.inr (Or.inr ⟨rfl,hr.more hg,⟨_,hn4,hb.off,hb.nn,hb.late,hb.on,λf ks hks=>?_,λf=>(by obtain⟨al,bl,h1,g⟩:=hb.dg f;exact⟨al,bl,h1,g.up (by omega)⟩)⟩,ha2.kept hg,hv,by omega,by rw[hl2];omega,λg hg2=>⟨Or.inl (h.mem.own_ g hg2).1,(h.mem.own_ g hg2).2⟩,hno,by rw[hl2];omega⟩)⟩
  obtain⟨al,bl,h1,h2,h3,h4⟩:=hb.open_ f ks hks
  exact⟨al,bl,h1,h2,by omega,h4⟩
theorem zbf.put (h:zbf W own st db S all blk a k nv all w) (hk:k≤60) (hb:b.length≤131072) {w5 w6:World} {v':Value} (hr:KR W own st db (S.put b).1 w3) (ht:zm (λk=>¬own k) w w3)
 (hg:w3.grownBy w5 none) (ha:Yg w5 54 2 Zq nv (all ++ [(S.next,b)]) v' w6):KMid W st db all a (k+1) v' (.int .i64 (S.put b).2.2) w6:=by
 obtain⟨h1,h2,h3⟩:=ha;have hlen:=h.mem.len;have hnx:=h.mem.next;have hn4:=h.mem.n;have hr5:=hr.grown hg;have hnr5:Zg w5 nv all:=(h.row.turn (λg hg=>(h.own_ g hg).1) ht).kept hg
 have har5:Zg w5 a all:=(h.mem.row.turn (λg hg=>(h.mem.own_ g hg).1) ht).kept hg
 have hr6:=hr5.pokeM (r:=nv.ownBlock) (λg hg=>⟨(h.own_ g hg).1,(h.own_ g hg).2.1⟩) h2
 have har6:Zg w6 a all:=yl.grown har5 h2 (λg hg e=>(h.own_ g e).2.2 hg)
 have hsz5:=hr5.gr.size;have hno:∀g,v'.ownBlock=some g→(own g∨(w5.heap.size≤g∧g<w6.heap.size))∧W.heap.size≤g:=λg hg2=>by
  have hl:=yl.lt h1 hg2
  rcases h3 with e|e
  ·rw[e] at hg2
   exact⟨Or.inl (h.own_ g hg2).1,(h.own_ g hg2).2.1⟩
  ·rw[hg2] at e
   injection e with e
   exact⟨Or.inr ⟨by omega,hl⟩,by omega⟩
 have hao:∀g,a.ownBlock=some g→(own g∨(w5.heap.size≤g∧g<w6.heap.size))∧W.heap.size≤g:=λg hg2=>⟨Or.inl (h.mem.own_ g hg2).1,(h.mem.own_ g hg2).2⟩
 rcases h.mem.inv.put (by omega) hb with e|⟨S',bl,e,k1,k2,k3⟩|⟨S',e,hbad⟩
 ·rw[e] at hr6 ⊢
  exact⟨_,S,all,blk,Or.inl ⟨rfl,hr6,h.mem.inv,by omega,hn4,har6,by omega,hao⟩⟩
 ·rw[e] at hr6 ⊢
  exact⟨_,S',_,bl,Or.inr (Or.inl ⟨rfl,hr6,k1,by rw[k2];omega,by rw[k3];exact hn4,h1,by simp;omega,hno⟩)⟩
 ·rw[e] at hr6 ⊢
  refine⟨_,S',all ++ [(S.next,b)],blk,Or.inr (Or.inr ⟨rfl,hr6,⟨_,hn4,hbad.off,hbad.nn,hbad.late,hbad.on,λf ks hks=>?_,λf=>(by obtain⟨al,bl,h1,g⟩:=hbad.dg f;exact⟨al,bl,h1,g.up (by omega)⟩)⟩,har6,h1,by omega,by simp;omega,hao,hno,by simp⟩)⟩
  obtain⟨al,bl,g1,g2,g3,g4⟩:=hbad.open_ f ks hks
  exact⟨al,bl,g1.elim Or.inl Or.inr,g2,by omega,g4⟩
theorem Uo.put_key (h:Uo S all blk) (hn:S.next≤4611686018427387904) (hb:b.length≤131072):((S.put b).2.2=0∧(S.put b).2.1=S.next)∨(S.put b).2.2≠0:=by
 rcases h.put hn hb with e|⟨S',bl,e,k1,k2,k3⟩|⟨S',e,hbad⟩
 ·rw[e];right;show(181:Int)≠0;decide
 ·rw[e];exact Or.inl ⟨rfl,rfl⟩
 ·rw[e];right;show(180:Int)≠0;decide
end
theorem zjw (X:World) (q:Int × List Int):Zh (X.alloc (.cells #[.int .i64 q.1,.string (ofB q.2)] 54)) Zq (.slice (some ⟨X.heap.size,0,none⟩) 1 1) [q]:=by
 refine⟨_,1,rfl,Or.inr ⟨_,rfl,λj u hu=>?_⟩⟩
 rw[ut]
 exact(zf (heap_alloc_new X _) j).trans (by simpa[Zq] using hu)
theorem idx_of (n:Int) {l:Nat} (hl:0<l) (hl2:l≤60):∃i:Nat,wrap64 ((IntKind.u64.wrap n).tmod (l:Int))=(i:Int)∧i<l:=by
 have h1:0≤IntKind.u64.wrap n:=by rw[IntKind.wrap_u64];omega
 have h2:=Int.emod_nonneg (IntKind.u64.wrap n) (show(l:Int)≠0 by omega)
 have h3:=Int.emod_lt_of_pos (IntKind.u64.wrap n) (show(0:Int)<(l:Int) by omega)
 refine⟨((IntKind.u64.wrap n)%(l:Int)).toNat,?_,by omega⟩
 rw[Int.tmod_eq_emod_of_nonneg h1];unfold wrap64;omega
theorem zkc (h:Zg w v l):∃p n c,v = .slice p n c:=by
 obtain⟨p,c,e,_,_⟩:=yl.form h
 exact⟨p,_,c,e⟩
theorem KOff.opened {st2:Nat} {nv:Value} (h:KOff W own st db d S all now a nv k w) {ks:List zt} (hks:jc (S.d.on fates) ks) (hr:KR W own st2 db (openS (S.d.on fates) ks) w') (ht:zm (λk=>¬own k) w w') :
  (∃blk,Zv W own st2 db (openS (S.d.on fates) ks) all blk a k w')∨(∃blk,Zv W own st2 db (openS (S.d.on fates) ks) now blk nv k w'∧Zg w' a all∧(openS (S.d.on fates) ks).recs.length≠all.length):=by
 obtain⟨n,hn,hb⟩:=h.bad;obtain⟨al,blk,hal,h1,h2,h3⟩:=hb.open_ fates ks hks;have ha:=h.row.turn (λg hg=>(h.own_ g hg).1) ht
 have hnv:=h.nrow.turn (λg hg=>(h.nown g hg).1) ht
 rcases hal with rfl|rfl
 ·exact Or.inl ⟨blk,hr,h1,h2,by rw[h3];exact hn,ha,h.len,h.own_⟩
 ·refine Or.inr ⟨blk,⟨hr,h1,h2,by rw[h3];exact hn,hnv,h.nlen,h.nown⟩,ha,?_⟩
  rw[h1.recs,List.length_map]
  exact λe=>h.ne e.symm
theorem Zv.keys {blk:Int→List Nat} (h:Zv W own st db S all blk a k w) (hk:k≤61):(∀r∈S.recs,1≤r.1∧r.1≤4611686018427387904)∧S.recs.length≤1000000:=by
 have h1:=h.next;have h2:=h.len;refine⟨λr hr=>?_,by rw[h.inv.recs,List.length_map];omega⟩
 rw[h.inv.recs] at hr;obtain⟨q,hq,rfl⟩:=List.mem_map.1 hr;have:=h.inv.good.key hq;simp only;omega
end Go.Proofs.YtbcbhlfjgobejaaGreat
