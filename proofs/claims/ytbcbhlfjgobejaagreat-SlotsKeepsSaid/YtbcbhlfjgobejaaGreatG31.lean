/- same(): has a store just these records? the walk. Conditions: a store and a row in memory. A store beside blocks that are written. Conditions: as the theorems say. SlotsKeeps: what stands between two calls, in memory. Conditions: as the theorems say. -/
import Derived.Test.YtbcbhlfjgobejaaGreatG30
set_option linter.unusedSimpArgs false
set_option linter.unusedVariables false
namespace Go.Proofs.YtbcbhlfjgobejaaGreat
open Go.RowKit Go.Sf Go.Shelf
theorem row_slice {w:World} {base n sz:Nat} {e:TypeId} {v:Value} {xs:List Value} (h:w.ownsRow base e sz v n xs):∃p c,v = .slice p n c:=by
 rcases h.2 with ⟨hv,h1⟩|⟨gg,cap,cur,hv,_⟩
 ·exact⟨none,0,by rw[hv,h1]⟩
 ·exact⟨_,cap,hv⟩
set_option maxHeartbeats 4000000 in
set_option maxRecDepth 100000 in
theorem same_false {W w:World} {own:Nat→Prop} {st db:Nat} {S:Sto} (h:KR W own st db S w) (hk:∀r∈S.recs,1≤r.1∧r.1≤4611686018427387904) (hl:S.recs.length≤1000000) {v:Value} {l:List (Int × List Int)} (hv:HRow w v l) (hne:S.recs.length≠l.length) :
  Calls Tryz.prog 35 #[.pointer (some ⟨st,0,none⟩),v] w fun e w'=>e = .returned (.bool false)∧w.grownBy w' none:=by
 have HNU:=Lib.hid (h.numbers hk hl)
 obtain⟨p,cap,rfl,hcm,hlc⟩:=SRow.form hv
 generalize S.recs.length=n at *
 generalize (((S.recs.map (·.1)).mergeSort fun x y=>decide (x≤y)).map (Value.int .i64))=xs at *
 generalize l.length=m at *
 clear h hk hv
 have hnm:((n:Int)=(m:Int))=False:=by simp;omega
 go_enter Tryz.func35,Tryz.ntmps35
 go_upto_region 2 with (go_at_call 26;refine HNU.out.mono ?_;rintro e w1 ⟨hg,v1,rfl,hv1⟩;have HG:=Lib.hid hg;clear hg HNU;obtain⟨p1,c1,rfl⟩:=row_slice hv1;clear hv1)
 go_wp2
 go_ret
 exact⟨rfl,HG.out⟩
theorem sorted_keys {all:List (Int × List Int)} {blk:Int→List Nat} {S:Sto} (hr:S.recs=all.map fun q=>(q.1,(q.2,blk q.1))) (hs:(all.map (·.1)).Pairwise (·< ·)):((S.recs.map (·.1)).mergeSort fun x y=>decide (x≤y))=all.map (·.1):=by
 have e:S.recs.map (·.1)=all.map (·.1):=by rw[hr,List.map_map];rfl
 rw[e]
 refine List.mergeSort_of_pairwise (hs.imp fun {a b} h=>?_)
 simp;omega
set_option maxHeartbeats 4000000 in
set_option maxRecDepth 100000 in
theorem same_true {W w:World} {own:Nat→Prop} {st db:Nat} {S:Sto} (h:KR W own st db S w) {all:List (Int × List Int)} {blk:Int→List Nat} (hr:S.recs=all.map fun q=>(q.1,(q.2,blk q.1))) (hg:Good crcB (bk S.d.now) S.d.n all blk S.next) (hn:S.next≤4611686018427387904) (hl:all.length≤1000000) {v:Value} (hv:HRow w v all) :
  Calls Tryz.prog 35 #[.pointer (some ⟨st,0,none⟩),v] w fun e w'=>e = .returned (.bool true)∧w.grownBy w' none:=by
 have hnu:=h.numbers (fun r hr2=>by
  rw[hr] at hr2
  obtain⟨q,hq,rfl⟩:=List.mem_map.1 hr2
  have:=hg.key hq
  simp only
  omega) (by rw[hr,List.length_map];exact hl)
 rw[sorted_keys hr hg.srt,show S.recs.length=all.length by rw[hr,List.length_map]] at hnu
 have HNU:=Lib.hid hnu
 have HGE:Hid (∀(w1:World),w.grownBy w1 none→∀(i:Nat) (hi:i<all.length),Calls Tryz.prog 21 #[.pointer (some ⟨st,0,none⟩),.int .i64 all[i].1] w1 fun e w'=>w1.grownBy w' none∧∃p c,e = .returned (.tuple #[.slice p all[i].2.length c,.bool true])∧NewRow w1 w' (.slice p all[i].2.length c) all[i].2):=(fun w1 hg1 i hi=>by
  have hm:mget S.recs all[i].1=some (all[i].2,blk all[i].1):=by
   have hq:=List.getElem_mem hi
   cases e:mget S.recs all[i].1 with
   | none=>
    exfalso
    refine mget_none_iff.1 e (all[i].1,(all[i].2,blk all[i].1)) ?_ rfl
    rw[hr]
    exact List.mem_map.2 ⟨_,hq,rfl⟩
   | some r=>
    have hm:=mget_mem e
    rw[hr] at hm
    obtain⟨q',hq',e'⟩:=List.mem_map.1 hm
    injection e' with e1 e2
    have:=hg.uniq hq' hq e1
    rw[this] at e2
    rw[←e2]
  refine((h.grown hg1).get all[i].1).mono ?_
  rw[hm]
  rintro e w' ⟨hg2,v,rfl,⟨h0,-⟩|⟨r,h0,hr2⟩⟩
  ·cases h0
  ·cases h0
   rcases hr2.2 with ⟨rfl,h0⟩|⟨g,c,cur,rfl,_⟩
   ·have h0:(all[i].2).length=0:=h0
    refine⟨hg2,none,0,?_,?_⟩
    ·rw[h0];rfl
    ·rw[h0];exact hr2
   ·exact⟨hg2,_,_,rfl,hr2⟩)
 have HV:=Lib.hid hv
 obtain⟨p,cap,rfl,hcm,hlc⟩:=SRow.form hv
 obtain⟨m,hm⟩:∃m,m=all.length:=⟨_,rfl⟩
 have HM:=Lib.hid hm
 rw[←hm] at HNU hl hlc ⊢
 clear h hr hg hn hv hnu hm
 go_enter Tryz.func35,Tryz.ntmps35
 go_upto_region 2 with (go_at_call 26;refine HNU.out.mono ?_;rintro e w1 ⟨hg,v1,rfl,hv1⟩;have HG:=Lib.hid hg;have HN1:=Lib.hid hv1;clear hg HNU;obtain⟨p1,c1,rfl⟩:=row_slice hv1;clear hv1)
 go_wp2
 go_loopw [6] (fun i wr=>w1.grownBy wr none∧∃k:Nat,k≤m∧i = .int .i64 k) (fun i _=>m-(intOf i).toNat)
 case atStart=>exact⟨grown_refl _,0,by omega,rfl⟩
 case round=>
  obtain⟨hg,k,hk,rfl⟩:=hrel
  by_cases hkm:k<m
  ·have hkl:k<all.length:=by rw[←HM.out];exact hkm
   have HG2:=Lib.hid (grown_trans HG.out hg)
   have HGT:=Lib.hid (HGE.out wr HG2.out k hkl)
   obtain⟨g1,hp,cK,cB,n1,hp1,cN⟩:∃g,p=some ⟨g,0,none⟩∧wr.cell? ⟨g,k*2,none⟩=some (.int .i64 all[k].1)∧wr.cell? ⟨g,k*2+1,none⟩=some (.string (ofB all[k].2))∧∃n1,p1=some ⟨n1,0,none⟩∧wr.cell? ⟨n1,k,none⟩=some (.int .i64 all[k].1):=by
    obtain⟨g,c,e,hc,-⟩:∃g c,(Value.slice p m cap) = .slice (some ⟨g,0,none⟩) all.length c∧(∀i,(hi:i<all.length)→∀j u,(hasE all[i])[j]? = some u→w.cell? ⟨g,i*2+j,none⟩=some u)∧True:=(by
     rcases SRow.at hasE_len HV.out with h0|⟨g,c,e,hc,_⟩
     ·rw[h0] at hkl;simp at hkl
     ·exact⟨g,c,by rw[HM.out];exact e,hc,trivial⟩)
    injection e with e1 e2 e3
    have hgw:=HG2.out
    refine⟨g,e1,hgw.cell (hc k hkl 0 _ rfl) (by simp),hgw.cell (hc k hkl 1 _ rfl) (by simp),?_⟩
    rcases HN1.out.2 with ⟨e4,h0⟩|⟨n1,c2,cur,e4,hb,hh,hx1,hx2,hx3,hx4⟩
    ·omega
    ·injection e4 with e5 e6 e7
     refine⟨n1,e5,?_⟩
     have h1:=HN1.out.cells (g:=n1) (by rw[e5];rfl) (j:=k) (u:=.int .i64 all[k].1) (by simp[hkl])
     rw[addr_at] at h1
     exact hg.cell h1 (by simp)
   subst hp hp1
   have hb1:=cell_lt cK
   have hb2:=cell_lt cN
   generalize all[k]=q at *
   obtain⟨qk,qb⟩:=q
   simp only at cK cB cN HGT hb1 hb2
   have HGR:=Lib.hid hg
   clear hg
   go_upto_region 8 with (go_at_call 21;refine HGT.out.mono ?_;rintro e w2 ⟨hg2,p2,c2,rfl,hnr⟩;have HGX:=Lib.hid hg2;have HNR:=Lib.hid hnr;clear hg2 hnr HGT)
   have cK2:=HGX.out.cell cK (by simp)
   have cB2:=HGX.out.cell cB (by simp)
   have cN2:=HGX.out.cell cN (by simp)
   have hb3:=cell_lt cK2
   have hb4:=cell_lt cN2
   have hcv:∀x:Ext,(convert 32 9 (.slice p2 qb.length c2)).run Tryz.prog (ext w2 x) = .ok (.string (ofB qb)) (ext w2 x):=fun x=>conv_raw ((raw_of_row HNR.out).grown (grown_ext w2 x) (by simp))
   have hcv0:(convert 32 9 (.slice p2 qb.length c2)).run Tryz.prog w2 = .ok (.string (ofB qb)) w2:=conv_raw (raw_of_row HNR.out)
   clear cK cB cN hb1 hb2
   refine wp_region_quiet_ext (by kernel_rfl) (by kernel_rfl) ?_
   repeat (any_goals (first|go_big_quiet_step (fail)|quiet_step (fail)))
   refine wpQuiet_nil ?_
   intro _ hw'
   obtain⟨xx,hw''⟩:=hw'
   subst hw''
   have HG9:=Lib.hid (grown_ext w2 xx)
   generalize ext w2 xx=w9 at *
   go_wp2
   refine⟨⟨grown_trans HGR.out (grown_trans HGX.out HG9.out),k+1,by omega,by simp⟩,by simp[intOf];omega⟩
  ·go_wp2
   go_ret
   exact⟨rfl,grown_trans HG.out hg⟩
section
variable {own : Nat → Prop} {W W' : World} {db sb nb : Nat} {lv : Value} {d : Dk} {r : Option Nat}
theorem DAt.pokeM (h:DAt own W db sb nb lv d) (ho:∀g,r=some g→own g) (hg:W.grownBy W' r) {own':Nat→Prop} (h1:∀k,own' k→own k∨W.heap.size≤k) (h2:∀k,own' k→k<W'.heap.size):DAt own' W' db sb nb lv d:=by
 have hdb:=h.dlt
 have hsb:=h.st.lt
 have hnb:=h.now.lt
 refine⟨(hg.block db h.dlt (fun e=>h.odb (ho _ e.symm))).trans h.box,h.st.kept hg (fun e=>h.osb (ho _ e.symm)),h.now.kept hg (fun e=>h.onb (ho _ e.symm)),h.late.kept hg ?_,h.sn,fun e=>(h1 _ e).elim h.odb (fun e=>by omega),fun e=>(h1 _ e).elim h.osb (fun e=>by omega),fun e=>(h1 _ e).elim h.onb (fun e=>by omega),fun g hg2 e=>(h1 _ e).elim (h.olv g hg2) (fun e=>by have:=(h.late.lt g hg2).2;omega),h2,h.n,h.w0,h.w1,h.bst,h.bnow,h.blate,h.few⟩
 rcases h3:lv.ownBlock with _|k
 ·exact Or.inl rfl
 ·exact Or.inr (fun e=>h.olv k h3 (ho _ e.symm))
theorem KR.pokeM {W w w':World} {st db:Nat} {S:Sto} (h:KR W own st db S w) (ho:∀g,r=some g→own g∧W.heap.size≤g) (hg:w.grownBy w' r):KR W (fun k=>own k∨(w.heap.size≤k∧k<w'.heap.size)) st db S w':=by
 obtain⟨mb,tb,rv,rb,hs⟩:=h.rep
 obtain⟨sb,nb,lv,hd⟩:=hs.disk.ex
 have ha:=fun g e=>hs.away g (ho g e).1
 have h1:=hs.st_lt
 have h2:=hs.mb_lt
 have h3:=hs.tb_lt
 have h4:=fun k hk=>@SAt.rb_lt _ _ _ _ _ _ _ _ _ hs k hk
 have hd':=hd.pokeM (fun g e=>Or.inl (ho g e).1) hg (own':=ownS (fun k=>own k∨(w.heap.size≤k∧k<w'.heap.size)) st mb tb rb) (fun k hk=>by
  rcases hk with (e|e)|e|e|e|e
  ·exact Or.inl (Or.inl e)
  ·exact Or.inr e.1
  ·exact Or.inl (Or.inr (Or.inl e))
  ·exact Or.inl (Or.inr (Or.inr (Or.inl e)))
  ·exact Or.inl (Or.inr (Or.inr (Or.inr (Or.inl e))))
  ·exact Or.inl (Or.inr (Or.inr (Or.inr (Or.inr e))))) (fun k hk=>by
  have hz:=hg.size
  rcases hk with (e|e)|e|e|e|e
  ·exact Nat.lt_of_lt_of_le (hs.own_lt e) hz
  ·exact e.2
  ·subst e;omega
  ·subst e;omega
  ·subst e;omega
  ·exact Nat.lt_of_lt_of_le (h4 k e) hz)
 refine⟨⟨mb,tb,rv,rb,⟨(hg.block st hs.st_lt (fun e=>(ha st e.symm).1 rfl)).trans hs.box,hs.recs.kept hg (fun e=>(ha mb e.symm).2.1 rfl),fun q hq=>⟨(hs.rows q hq).1.turn fun k hk=>hg.block k (h4 k hk) (fun e=>(ha k e.symm).2.2.2 hk),(hs.rows q hq).2.turn fun k hk=>hg.block k (h4 k hk) (fun e=>(ha k e.symm).2.2.2 hk)⟩,(hg.block tb hs.tb_lt (fun e=>(ha tb e.symm).2.2.1 rfl)).trans hs.tak,⟨sb,nb,lv,hd'⟩,fun k hk=>?_,hs.rbs,hs.ok⟩⟩,fun k hk=>Or.inl (h.old k hk),?_⟩
 ·rcases hk with e|e
  ·exact hs.away k e
  ·exact⟨by omega,by omega,by omega,fun e2=>by have:=h4 k e2;omega⟩
 ·exact⟨hg.os.trans h.gr.os,hg.tape.trans h.gr.tape,hg.output.trans h.gr.output,Nat.le_trans h.gr.size hg.size,fun k hk _=>(hg.block k (Nat.lt_of_lt_of_le hk h.gr.size) (fun e=>by have:=(ho k e.symm).2;omega)).trans (h.gr.block k hk (by simp))⟩
end
theorem CallOk.grown {W w:World} {x:CallM} (h:CallOk W x) (hg:W.grownBy w none):CallOk w x:=
 ⟨h.b.grown hg (by simp),h.bb,h.f.grown hg (by simp),h.fb,h.k,h.t,h.n,h.bl,h.fl⟩
def IntRow (w:World) (v:Value) (l:List Int):Prop:=∃p cap,v = .slice p l.length cap∧l.length≤9223372036854775807∧(∀x∈l,-9223372036854775808≤x∧x<9223372036854775808)∧(l = []∨∃b off,p=some ⟨b,off,none⟩∧∀i (hi:i<l.length),w.cell? ⟨b,off+i,none⟩=some (.int .i64 l[i]))
structure KMem (W:World) (own:Nat→Prop) (st db:Nat) (S:Sto) (all:List (Int × List Int)) (blk:Int→List Nat) (a:Value) (k:Nat) (w:World):Prop where
 kr:KR W own st db S w
 inv:KInv S all blk
 next:S.next≤(k:Int)+1
 n:S.d.n≤4096
 row:HRow w a all
 len:all.length≤k
 own_:∀g,a.ownBlock=some g→own g∧W.heap.size≤g
def KLoop (W:World) (m db:Nat) (s e a i:Value) (wr:World):Prop:=∃(own:Nat→Prop) (st:Nat) (S:Sto) (all:List (Int × List Int)) (blk:Int→List Nat) (k:Nat),k≤m∧i = .int .i64 (k:Int)∧e = .int .i64 0∧s = .pointer (some ⟨st,0,none⟩)∧KMem W own st db S all blk a k wr
section
variable {W w w' : World} {own : Nat → Prop} {st db : Nat} {S : Sto} {all : List (Int × List Int)} {blk : Int → List Nat} {a nv : Value} {k : Nat}
theorem KMem.failed (h:KMem W own st db S all blk a k w) (n:Int) (hk:KR W own st db { S with d:=S.d.failed n } w') (ht:Turn (fun k=>¬own k) w w'):KMem W own st db { S with d:=S.d.failed n } all blk a k w':=
 ⟨hk,h.inv.failed n,h.next,h.n,h.row.turn (fun g hg=>(h.own_ g hg).1) ht,h.len,h.own_⟩
theorem KMem.grown (h:KMem W own st db S all blk a k w) (hg:w.grownBy w' none):KMem W own st db S all blk a k w':=
 ⟨h.kr.grown hg,h.inv,h.next,h.n,h.row.kept hg,h.len,h.own_⟩
theorem KMem.up (h:KMem W own st db S all blk a k w):KMem W own st db S all blk a (k+1) w:=
 ⟨h.kr,h.inv,by have:=h.next;omega,h.n,h.row,by have:=h.len;omega,h.own_⟩
theorem KMem.more (h:KMem W own st db S all blk a k w) (hg:w.grownBy w' none):KMem W (fun k=>own k∨(w.heap.size≤k∧k<w'.heap.size)) st db S all blk a k w':=
 ⟨h.kr.more hg,h.inv,h.next,h.n,h.row.kept hg,h.len,fun g hg2=>⟨Or.inl (h.own_ g hg2).1,(h.own_ g hg2).2⟩⟩
structure KNow (W:World) (own:Nat→Prop) (st db:Nat) (S:Sto) (all:List (Int × List Int)) (blk:Int→List Nat) (a:Value) (k:Nat) (nv:Value) (now:List (Int × List Int)) (w:World):Prop where
 mem:KMem W own st db S all blk a k w
 row:HRow w nv now
 own_:∀g,nv.ownBlock=some g→own g∧W.heap.size≤g∧a.ownBlock≠some g
theorem KNow.start (h:KMem W own st db S all blk a k w) (ha:Apped w 54 2 hasE (.slice none 0 0) ([]++all) nv w'):KNow W (fun k=>own k∨(w.heap.size≤k∧k<w'.heap.size)) st db S all blk a k nv all w':=by
 obtain⟨h1,h2,h3⟩:=ha
 rw[List.nil_append] at h1
 have hg:w.grownBy w' none:=h2
 refine⟨h.more hg,h1,fun g hg2=>?_⟩
 have hl:=SRow.lt h1 hg2
 rcases h3 with e|e
 ·rw[e] at hg2;simp[Value.ownBlock] at hg2
 ·rw[hg2] at e
  injection e with e
  have h5:=h.kr.gr.size
  refine⟨Or.inr ⟨by omega,hl⟩,by omega,fun e2=>?_⟩
  have:=SRow.lt h.row e2
  omega
theorem KNow.grown {now:List (Int × List Int)} (h:KNow W own st db S all blk a k nv now w) (hg:w.grownBy w' none):KNow W own st db S all blk a k nv now w':=⟨h.mem.grown hg,h.row.kept hg,h.own_⟩
theorem KNow.more {now:List (Int × List Int)} (h:KNow W own st db S all blk a k nv now w) (hg:w.grownBy w' none):KNow W (fun k=>own k∨(w.heap.size≤k∧k<w'.heap.size)) st db S all blk a k nv now w':=
 ⟨h.mem.more hg,h.row.kept hg,fun g hg2=>⟨Or.inl (h.own_ g hg2).1,(h.own_ g hg2).2⟩⟩
structure KOff (W:World) (own:Nat→Prop) (st db:Nat) (d:Dk) (S:Sto) (all now:List (Int × List Int)) (a nv:Value) (k:Nat) (w:World):Prop where
 kr:KR W own st db S w
 bad:∃n,n≤4096∧KBad S.d n now all ((k:Int)+1)
 row:HRow w a all
 nrow:HRow w nv now
 len:all.length≤k
 nlen:now.length≤k
 own_:∀g,a.ownBlock=some g→own g∧W.heap.size≤g
 nown:∀g,nv.ownBlock=some g→own g∧W.heap.size≤g
 ne:all.length≠now.length
def KMid (W:World) (st db:Nat) (all:List (Int × List Int)) (a:Value) (k:Nat) (nv f:Value) (w:World):Prop:=∃(own:Nat→Prop) (S:Sto) (now:List (Int × List Int)) (blk:Int→List Nat),
 (f = .int .i64 181∧KMem W own st db S all blk a k w)∨(f = .int .i64 0∧KMem W own st db S now blk nv k w)∨(f = .int .i64 180∧KOff W own st db S.d S all now a nv k w)
theorem filter_nth {l:List (Int × List Int)} (hs:(l.map (·.1)).Pairwise (·< ·)) {i:Nat} (hi:i<l.length):(l.filter fun r=>decide (r.1≠l[i].1))=l.take i++l.drop (i+1):=by
 have key:∀(l:List (Int × List Int)) (i:Nat) (hi:i<l.length),(l.map (·.1)).Pairwise (·< ·)→(l.filter fun r=>decide (r.1≠l[i].1))=l.take i++l.drop (i+1):=by
  intro l
  induction l with
  | nil=>intro i hi;simp at hi
  | cons x t ih=>
   intro i hi hs
   rw[List.map_cons,List.pairwise_cons] at hs
   cases i with
   | zero=>
    simp only[List.getElem_cons_zero,List.take_zero,List.nil_append,List.drop_succ_cons,List.drop_zero]
    rw[List.filter_cons_of_neg (by simp),List.filter_eq_self]
    intro y hy
    have:=hs.1 y.1 (List.mem_map.2 ⟨y,hy,rfl⟩)
    simp;omega
   | succ i=>
    have hi':i<t.length:=by simpa using hi
    have:=hs.1 t[i].1 (List.mem_map.2 ⟨_,List.getElem_mem hi',rfl⟩)
    simp only[List.getElem_cons_succ,List.take_succ_cons,List.drop_succ_cons,List.cons_append]
    rw[List.filter_cons_of_pos (by simp;omega),ih i hi' hs.2]
 exact key l i hi hs
theorem KNow.rem {now:List (Int × List Int)} (h:KNow W own st db S all blk a k nv now w) {i:Nat} (hi:i<all.length) (hk:k≤60) {w2 w3:World} {v3:Value} (hr:KR W own st db (S.rem all[i].1).1 w2) (ht:Turn (fun k=>¬own k) w w2)
  (hv:HRow w3 v3 (all.take i++all.drop (i+1))) (hg:w2.grownBy w3 none) (hn:∀g,v3.ownBlock=some g→w2.heap.size≤g):KMid W st db all a (k+1) v3 (.int .i64 (S.rem all[i].1).2) w3:=by
 have hmem:=List.getElem_mem hi
 have hlen:=h.mem.len
 have hfl:=filter_nth h.mem.inv.good.srt hi
 have hl2:(all.take i++all.drop (i+1)).length=all.length-1:=by rw[List.length_append,List.length_take,List.length_drop];omega
 have ha2:HRow w2 a all:=h.mem.row.turn (fun g hg=>(h.mem.own_ g hg).1) ht
 have hno:∀g,v3.ownBlock=some g→(own g∨(w2.heap.size≤g∧g<w3.heap.size))∧W.heap.size≤g:=fun g hg2=>by
  have h1:=hn g hg2
  have h2:=SRow.lt hv hg2
  have h3:=h.mem.kr.gr.size
  have h4:=ht.size
  exact⟨Or.inr ⟨h1,h2⟩,by omega⟩
 have hnx:=h.mem.next
 have hn4:=h.mem.n
 rcases h.mem.inv.rem hmem with ⟨S',e,hi1,hi2,hi3⟩|⟨S',e,hb⟩
 ·rw[e] at hr ⊢
  rw[hfl] at hi1
  refine⟨_,S',_,blk,Or.inr (Or.inl ⟨rfl,hr.more hg,hi1,by rw[hi2];omega,by rw[hi3];exact hn4,hv,by rw[hl2];omega,hno⟩)⟩
 ·rw[e] at hr ⊢
  rw[hfl] at hb
  refine⟨_,S',all.take i++all.drop (i+1),blk,Or.inr (Or.inr ⟨rfl,hr.more hg,⟨_,hn4,hb.off,hb.nn,hb.late,hb.on,fun f ks hks=>?_⟩,ha2.kept hg,hv,by omega,by rw[hl2];omega,fun g hg2=>⟨Or.inl (h.mem.own_ g hg2).1,(h.mem.own_ g hg2).2⟩,hno,by rw[hl2];omega⟩)⟩
  obtain⟨al,bl,h1,h2,h3,h4⟩:=hb.open_ f ks hks
  exact⟨al,bl,h1,h2,by omega,h4⟩
theorem KNow.put (h:KNow W own st db S all blk a k nv all w) (hk:k≤60) {b:List Int} (hb:b.length≤131072) {w3 w5 w6:World} {v':Value} (hr:KR W own st db (S.put b).1 w3) (ht:Turn (fun k=>¬own k) w w3)
  (hg:w3.grownBy w5 none) (ha:Apped w5 54 2 hasE nv (all ++ [(S.next,b)]) v' w6):KMid W st db all a (k+1) v' (.int .i64 (S.put b).2.2) w6:=by
 obtain⟨h1,h2,h3⟩:=ha
 have hlen:=h.mem.len
 have hnx:=h.mem.next
 have hn4:=h.mem.n
 have hr5:=hr.grown hg
 have hnr5:HRow w5 nv all:=(h.row.turn (fun g hg=>(h.own_ g hg).1) ht).kept hg
 have har5:HRow w5 a all:=(h.mem.row.turn (fun g hg=>(h.mem.own_ g hg).1) ht).kept hg
 have hr6:=hr5.pokeM (r:=nv.ownBlock) (fun g hg=>⟨(h.own_ g hg).1,(h.own_ g hg).2.1⟩) h2
 have har6:HRow w6 a all:=SRow.grown har5 h2 (fun g hg e=>(h.own_ g e).2.2 hg)
 have hsz5:=hr5.gr.size
 have hno:∀g,v'.ownBlock=some g→(own g∨(w5.heap.size≤g∧g<w6.heap.size))∧W.heap.size≤g:=fun g hg2=>by
  have hl:=SRow.lt h1 hg2
  rcases h3 with e|e
  ·rw[e] at hg2
   exact⟨Or.inl (h.own_ g hg2).1,(h.own_ g hg2).2.1⟩
  ·rw[hg2] at e
   injection e with e
   exact⟨Or.inr ⟨by omega,hl⟩,by omega⟩
 have hao:∀g,a.ownBlock=some g→(own g∨(w5.heap.size≤g∧g<w6.heap.size))∧W.heap.size≤g:=fun g hg2=>⟨Or.inl (h.mem.own_ g hg2).1,(h.mem.own_ g hg2).2⟩
 rcases h.mem.inv.put (by omega) hb with e|⟨S',bl,e,k1,k2,k3⟩|⟨S',e,hbad⟩
 ·rw[e] at hr6 ⊢
  exact⟨_,S,all,blk,Or.inl ⟨rfl,hr6,h.mem.inv,by omega,hn4,har6,by omega,hao⟩⟩
 ·rw[e] at hr6 ⊢
  exact⟨_,S',_,bl,Or.inr (Or.inl ⟨rfl,hr6,k1,by rw[k2];omega,by rw[k3];exact hn4,h1,by simp;omega,hno⟩)⟩
 ·rw[e] at hr6 ⊢
  refine⟨_,S',all ++ [(S.next,b)],blk,Or.inr (Or.inr ⟨rfl,hr6,⟨_,hn4,hbad.off,hbad.nn,hbad.late,hbad.on,fun f ks hks=>?_⟩,har6,h1,by omega,by simp;omega,hao,hno,by simp⟩)⟩
  obtain⟨al,bl,g1,g2,g3,g4⟩:=hbad.open_ f ks hks
  exact⟨al,bl,g1.elim Or.inl Or.inr,g2,by omega,g4⟩
theorem KInv.put_key (h:KInv S all blk) (hn:S.next≤4611686018427387904) {b:List Int} (hb:b.length≤131072):((S.put b).2.2=0∧(S.put b).2.1=S.next)∨(S.put b).2.2≠0:=by
 rcases h.put hn hb with e|⟨S',bl,e,k1,k2,k3⟩|⟨S',e,hbad⟩
 ·rw[e];right;show(181:Int)≠0;decide
 ·rw[e];exact Or.inl ⟨rfl,rfl⟩
 ·rw[e];right;show(180:Int)≠0;decide
end
theorem yhas_one (X:World) (q:Int × List Int):YRow (X.alloc (.cells #[.int .i64 q.1,.string (ofB q.2)] 54)) hasE (.slice (some ⟨X.heap.size,0,none⟩) 1 1) [q]:=by
 refine⟨_,1,rfl,Or.inr ⟨_,rfl,fun j u hu=>?_⟩⟩
 rw[addr_at]
 exact(cell_block (heap_alloc_new X _) j).trans (by simpa[hasE] using hu)
theorem idx_of (n:Int) {l:Nat} (hl:0<l) (hl2:l≤60):∃i:Nat,wrap64 ((IntKind.u64.wrap n).tmod (l:Int))=(i:Int)∧i<l:=by
 have h1:0≤IntKind.u64.wrap n:=by rw[IntKind.wrap_u64];omega
 have h2:=Int.emod_nonneg (IntKind.u64.wrap n) (show(l:Int)≠0 by omega)
 have h3:=Int.emod_lt_of_pos (IntKind.u64.wrap n) (show(0:Int)<(l:Int) by omega)
 refine⟨((IntKind.u64.wrap n)%(l:Int)).toNat,?_,by omega⟩
 rw[Int.tmod_eq_emod_of_nonneg h1]
 unfold wrap64
 omega
theorem hrow_form3 {w:World} {v:Value} {l:List (Int × List Int)} (h:HRow w v l):∃p n c,v = .slice p n c:=by
 obtain⟨p,c,e,_,_⟩:=SRow.form h
 exact⟨p,_,c,e⟩
theorem KOff.opened {W w w':World} {own:Nat→Prop} {st st2 db:Nat} {d:Dk} {S:Sto} {all now:List (Int × List Int)} {a nv:Value} {k:Nat} (h:KOff W own st db d S all now a nv k w) {fates:List Int} {ks:List Key19} (hks:KeysOf (S.d.on fates) ks) (hr:KR W own st2 db (openS (S.d.on fates) ks) w') (ht:Turn (fun k=>¬own k) w w') :
  (∃blk,KMem W own st2 db (openS (S.d.on fates) ks) all blk a k w')∨(∃blk,KMem W own st2 db (openS (S.d.on fates) ks) now blk nv k w'∧HRow w' a all∧(openS (S.d.on fates) ks).recs.length≠all.length):=by
 obtain⟨n,hn,hb⟩:=h.bad
 obtain⟨al,blk,hal,h1,h2,h3⟩:=hb.open_ fates ks hks
 have ha:=h.row.turn (fun g hg=>(h.own_ g hg).1) ht
 have hnv:=h.nrow.turn (fun g hg=>(h.nown g hg).1) ht
 rcases hal with rfl|rfl
 ·exact Or.inl ⟨blk,hr,h1,h2,by rw[h3];exact hn,ha,h.len,h.own_⟩
 ·refine Or.inr ⟨blk,⟨hr,h1,h2,by rw[h3];exact hn,hnv,h.nlen,h.nown⟩,ha,?_⟩
  rw[h1.recs,List.length_map]
  exact fun e=>h.ne e.symm
theorem KMem.keys {W w:World} {own:Nat→Prop} {st db:Nat} {S:Sto} {all:List (Int × List Int)} {blk:Int→List Nat} {a:Value} {k:Nat} (h:KMem W own st db S all blk a k w) (hk:k≤61):(∀r∈S.recs,1≤r.1∧r.1≤4611686018427387904)∧S.recs.length≤1000000:=by
 have h1:=h.next
 have h2:=h.len
 refine⟨fun r hr=>?_,by rw[h.inv.recs,List.length_map];omega⟩
 rw[h.inv.recs] at hr
 obtain⟨q,hq,rfl⟩:=List.mem_map.1 hr
 have:=h.inv.good.key hq
 simp only
 omega
end Go.Proofs.YtbcbhlfjgobejaaGreat
