/- A store beside protected blocks: what its calls leave; the same, for loops. Conditions: none, or as the theorems say. -/
import Derived.Test.YtbcbhlfjgobejaaGreatJ41
set_option linter.unusedSimpArgs false
set_option linter.unusedVariables false
namespace Go.Proofs.YtbcbhlfjgobejaaGreat
set_option maxHeartbeats 200000000
open Go.RowKit Go.Sf Go.Shelf
structure KR (W:World) (own:Nat→Prop) (st db:Nat) (S:Sto) (w:World):Prop where
 rep:Ul own w st db S
 old:∀k,k<W.heap.size→own k
 gr:W.grownBy w none
section
variable {W w w' : World} {own : Nat → Prop} {st db : Nat} {S : Sto}
theorem KR.lt (h:KR W own st db S w) {k:Nat} (hk:own k):k<w.heap.size:=by
 obtain⟨mb,tb,rv,rb,hs⟩:=h.rep
 exact hs.own_lt hk
theorem KR.more (h:KR W own st db S w) (hg:w.grownBy w' none):KR W (fun k=>own k∨(w.heap.size≤k∧k<w'.heap.size)) st db S w':=by
 obtain⟨mb,tb,rv,rb,hs⟩:=h.rep
 exact⟨⟨mb,tb,rv,rb,hs.owns hg (fun k hk=>hk.imp id fun e=>e.1) (fun k hk=>by
  rcases hk with e|e
  ·exact Nat.lt_of_lt_of_le (hs.own_lt e) hg.size
  ·exact e.2)⟩,fun k hk=>Or.inl (h.old k hk),zh h.gr hg⟩
theorem KR.put (h:KR W own st db S w) {v:Value} {b:List Int} (hv:xy own w v (zg b)) (hb:BL b) (hl:b.length≤100000000) (hf:S.d.late.length+600<1000000) :
  Calls Tryz.prog 20 #[.pointer (some ⟨st,0,none⟩),v] w fun e w'=>e = .returned (.tuple #[.int .i64 (S.put b).2.1,.int .i64 (S.put b).2.2])∧KR W own st db (S.put b).1 w'∧zm (fun k=>¬own k) w w':=by
 obtain⟨mb,tb,rv,rb,hs⟩:=h.rep;refine(sput hs hv hb hl hf).mono ?_;rintro e w' ⟨rfl,hr,ht⟩
 exact⟨rfl,⟨hr,h.old,ue h.gr h.old ht⟩,ht⟩
theorem KR.rem (h:KR W own st db S w) (k:Int) (hf:S.d.late.length<1000000) :
  Calls Tryz.prog 30 #[.pointer (some ⟨st,0,none⟩),.int .i64 k] w fun e w'=>e = .returned (.int .i64 (S.rem k).2)∧KR W own st db (S.rem k).1 w'∧zm (fun k=>¬own k) w w':=by
 obtain⟨mb,tb,rv,rb,hs⟩:=h.rep;refine(zi6 hs k hf).mono ?_;rintro e w' ⟨rfl,hr,ht⟩
 exact⟨rfl,⟨⟨_,_,_,_,hr⟩,h.old,ue h.gr h.old ht⟩,ht⟩
theorem KR.fail (h:KR W own st db S w) (n:Int) (hn:n<9223372036854775808):Calls Tryz.prog 28 #[.pointer (some ⟨db,0,none⟩),.int .i64 n] w fun e w'=>e = .returned (.tuple #[])∧KR W own st db { S with d:=S.d.failed n } w'∧zm (fun k=>¬own k) w w':=by
 obtain⟨mb,tb,rv,rb,hs⟩:=h.rep;refine(dfail hs.disk n hn).mono ?_;rintro e w' ⟨rfl,hd,ht⟩
 exact⟨rfl,⟨⟨_,_,_,_,hs.turned hd ht rfl⟩,h.old,ue h.gr h.old (Ua ht)⟩,Ua ht⟩
end
theorem zjf (W:World) (s:ByteArray) (hs:s.size≤1000000):∃y W2,(convert 9 32 (.string s)).run Tryz.prog W = .ok y W2∧W.grownBy W2 none∧xy (fun k=>W.heap.size≤k∧k<W2.heap.size) W2 y (zg (xu s)):=by
 refine⟨_,_,Lib.run_convert_string_bytes (P:=Tryz.prog) W 9 32 5 s (u:=.string) Tryz.underlying9 Tryz.underlying32 Tryz.underlying5,zak _ _ _,?_⟩;obtain⟨p,cap,e,hc⟩:=(zaq W s).ex
 injection e with e1 e2 e3
 have hge:=grownCap_ge W s.size 0 5;have hle:=grownCap_le_maxLen W s.size 0 5 (by unfold maxLen;omega)
 unfold maxLen at hle;have hsz:W.heap.size<(Lib.bytesWorld W 5 s).heap.size:=by
  unfold Lib.bytesWorld World.freeze
  split <;> simp
 refine⟨some ⟨W.heap.size,0,none⟩,grownCap W s.size 0 5,by rw[zt,vd],by rw[zt,vd];exact hge,by omega,?_⟩
 rcases hc with h0|⟨a,h1,h2⟩
 ·left;rw[h0];rfl
 ·right
  rw[←e1] at h1
  injection h1 with h1
  subst h1
  exact⟨_,rfl,⟨Nat.le_refl _,hsz⟩,h2⟩
section
variable {own : Nat → Prop} {W W' : World} {db sb nb : Nat} {lv : Value} {d : Dk} {r : Option Nat}
theorem DAt.pokeM (h:DAt own W db sb nb lv d) (ho:∀g,r=some g→own g) (hg:W.grownBy W' r) {own':Nat→Prop} (h1:∀k,own' k→own k∨W.heap.size≤k) (h2:∀k,own' k→k<W'.heap.size):DAt own' W' db sb nb lv d:=by
 have hdb:=h.dlt;have hsb:=h.st.lt;have hnb:=h.now.lt;refine⟨(hg.block db h.dlt (fun e=>h.odb (ho _ e.symm))).trans h.box,h.st.kept hg (fun e=>h.osb (ho _ e.symm)),h.now.kept hg (fun e=>h.onb (ho _ e.symm)),h.late.kept hg ?_,h.sn,fun e=>(h1 _ e).elim h.odb (fun e=>by omega),fun e=>(h1 _ e).elim h.osb (fun e=>by omega),fun e=>(h1 _ e).elim h.onb (fun e=>by omega),fun g hg2 e=>(h1 _ e).elim (h.olv g hg2) (fun e=>by have:=(h.late.lt g hg2).2;omega),h2,h.n,h.w0,h.w1,h.bst,h.bnow,h.blate,h.few⟩
 rcases h3:lv.ownBlock with _|k
 ·exact Or.inl rfl
 ·exact Or.inr (fun e=>h.olv k h3 (ho _ e.symm))
theorem KR.pokeM {W w w':World} {st db:Nat} {S:Sto} (h:KR W own st db S w) (ho:∀g,r=some g→own g∧W.heap.size≤g) (hg:w.grownBy w' r):KR W (fun k=>own k∨(w.heap.size≤k∧k<w'.heap.size)) st db S w':=by
 obtain⟨mb,tb,rv,rb,hs⟩:=h.rep;obtain⟨sb,nb,lv,hd⟩:=hs.disk.ex;have ha:=fun g e=>hs.away g (ho g e).1
 have h1:=hs.st_lt;have h2:=hs.mb_lt;have h3:=hs.tb_lt;have h4:=fun k hk=>@SAt.rb_lt _ _ _ _ _ _ _ _ _ hs k hk
 have hd':=hd.pokeM (fun g e=>Or.inl (ho g e).1) hg (own':=ownS (fun k=>own k∨(w.heap.size≤k∧k<w'.heap.size)) st mb tb rb) (fun k hk=>by
  rcases hk with (e|e)|e|e|e|e
  ·exact Or.inl (Or.inl e)
  ·exact Or.inr e.1
  ·exact Or.inl (Or.inr (Or.inl e))
  ·exact Or.inl (Or.inr (Or.inr (Or.inl e)))
  ·exact Or.inl (Or.inr (Or.inr (Or.inr (Or.inl e))))
  ·exact Or.inl (Or.inr (Or.inr (Or.inr (Or.inr e))))) (fun k hk=>by
  have hz:=hg.size
  rcases hk with (e|e)|e|e|e|e
  ·exact Nat.lt_of_lt_of_le (hs.own_lt e) hz
  ·exact e.2
  ·subst e;omega
  ·subst e;omega
  ·subst e;omega
  ·exact Nat.lt_of_lt_of_le (h4 k e) hz)
 refine⟨⟨mb,tb,rv,rb,⟨(hg.block st hs.st_lt (fun e=>(ha st e.symm).1 rfl)).trans hs.box,hs.recs.kept hg (fun e=>(ha mb e.symm).2.1 rfl),fun q hq=>⟨(hs.rows q hq).1.turn fun k hk=>hg.block k (h4 k hk) (fun e=>(ha k e.symm).2.2.2 hk),(hs.rows q hq).2.turn fun k hk=>hg.block k (h4 k hk) (fun e=>(ha k e.symm).2.2.2 hk)⟩,(hg.block tb hs.tb_lt (fun e=>(ha tb e.symm).2.2.1 rfl)).trans hs.tak,⟨sb,nb,lv,hd'⟩,fun k hk=>?_,hs.rbs,hs.ok⟩⟩,fun k hk=>Or.inl (h.old k hk),?_⟩
 ·rcases hk with e|e
  ·exact hs.away k e
  ·exact⟨by omega,by omega,by omega,fun e2=>by have:=h4 k e2;omega⟩
 ·exact⟨hg.os.trans h.gr.os,hg.tape.trans h.gr.tape,hg.output.trans h.gr.output,Nat.le_trans h.gr.size hg.size,fun k hk _=>(hg.block k (Nat.lt_of_lt_of_le hk h.gr.size) (fun e=>by have:=(ho k e.symm).2;omega)).trans (h.gr.block k hk (by simp))⟩
end
theorem jh.grown {W w:World} {x:qk} (h:jh W x) (hg:W.grownBy w none):jh w x:=
 ⟨h.b.grown hg (by simp),h.bb,h.f.grown hg (by simp),h.fb,h.k,h.t,h.n,h.bl,h.fl⟩
section
variable {own own' : Nat → Prop} {W W' : World} {db st mb tb : Nat} {rv : Int → Value × Value} {rb : Nat → Prop} {S : Sto} {d : Dk}
theorem vj.otherM (h:vj own W db d) (ht:zm own W W') (h1:∀k,own' k→own k∨W.heap.size≤k) (h2:∀k,own' k→k<W'.heap.size):vj own' W' db d:=by
 obtain⟨sb,nb,lv,h⟩:=h.ex;have hdb:=h.dlt;have hsb:=h.st.lt;have hnb:=h.now.lt
 exact⟨sb,nb,lv,(ht.block db h.dlt h.odb).trans h.box,h.st.same (ht.block sb h.st.lt h.osb),h.now.same (ht.block nb h.now.lt h.onb),qb h.late (fun g hg=>ht.block g (Go.Proofs.YtbcbhlfjgobejaaGreat.own_lt h.late hg) (h.olv g hg)),h.sn,fun e=>(h1 _ e).elim h.odb (fun e=>by omega),fun e=>(h1 _ e).elim h.osb (fun e=>by omega),fun e=>(h1 _ e).elim h.onb (fun e=>by omega),fun g hg2 e=>(h1 _ e).elim (h.olv g hg2) (fun e=>by have:=Go.Proofs.YtbcbhlfjgobejaaGreat.own_lt h.late hg2;omega),h2,h.n,h.w0,h.w1,h.bst,h.bnow,h.blate,h.few⟩
theorem Ul.otherM (h:Ul own W st db S) (ht:zm own W W') (h1:∀k,own' k→own k∨W.heap.size≤k) (h2:∀k,own' k→k<W'.heap.size):Ul own' W' st db S:=by
 obtain⟨mb,tb,rv,rb,hs⟩:=h;have a1:=hs.st_lt;have a2:=hs.mb_lt;have a3:=hs.tb_lt;have a4:=fun k hk=>@SAt.rb_lt _ _ _ _ _ _ _ _ _ hs k hk
 have ho:=hs.others ht;have hz:=ht.size;refine⟨mb,tb,rv,rb,ho.box,ho.recs,ho.rows,ho.tak,hs.disk.otherM (ht.mono fun k hk=>Or.inl hk) (fun k hk=>?_) (fun k hk=>?_),fun k hk=>?_,hs.rbs,hs.ok⟩
 ·rcases hk with e|e
  ·exact(h1 k e).imp Or.inl id
  ·exact Or.inl (Or.inr e)
 ·rcases hk with e|e|e|e|e
  ·exact h2 k e
  ·subst e;omega
  ·subst e;omega
  ·subst e;omega
  ·exact Nat.lt_of_lt_of_le (a4 k e) hz
 ·rcases h1 k hk with e|e
  ·exact hs.away k e
  ·exact⟨by omega,by omega,by omega,fun e2=>by have:=a4 k e2;omega⟩
end
def Ql (own:Nat→Prop) (w w':World) (k:Nat):Prop:=own k∨(w.heap.size≤k∧k<w'.heap.size)
structure JE (W:World) (own rsd:Nat→Prop) (db mb:Nat) (d:Dk) (R:RDk) (w:World):Prop where
 dr:vj own w db d
 rr:R18 rsd w mb R
 old:∀q,q<W.heap.size→own q
 gr:W.grownBy w none
 od:∀q,rsd q→own q∧W.heap.size≤q
structure JX (W:World) (own rsd:Nat→Prop) (st db mb:Nat) (S:Sto) (R:RDk) (w:World):Prop where
 sr:Ul own w st db S
 rr:R18 rsd w mb R
 old:∀q,q<W.heap.size→own q
 gr:W.grownBy w none
 od:∀q,rsd q→own q∧W.heap.size≤q
structure JM (W:World) (own rsd rss:Nat→Prop) (st db sb mb:Nat) (S:Sto) (D:Doc) (w:World):Prop where
 sr:Ul own w st db S
 rp:ux rsd rss w sb mb D.R D.L D.next D.broken
 old:∀q,q<W.heap.size→own q
 gr:W.grownBy w none
 od:∀q,rsd q→own q∧W.heap.size≤q
 os:∀q,rss q→own q∧W.heap.size≤q
theorem Qx {rs:Nat→Prop} {W w w':World} (h:W.grownBy w none) (ho:∀k,rs k→W.heap.size≤k) (ht:zm rs w w'):W.grownBy w' none:=
 ⟨ht.os.trans h.os,ht.tape.trans h.tape,ht.output.trans h.output,Nat.le_trans h.size ht.size,fun k hk _=>(ht.block k (Nat.lt_of_lt_of_le hk h.size) (fun e=>by have:=ho k e;omega)).trans (h.block k hk (by simp))⟩
section
variable {W w w' : World} {own rsd rss rsd' rss' : Nat → Prop} {st db sb mb : Nat} {d d' : Dk} {R R' : RDk} {S S' : Sto} {D D' : Doc}
theorem Qm (h:∀q,own q→q<w.heap.size) (hz:w.heap.size≤w'.heap.size):∀q,Ql own w w' q→q<w'.heap.size:=fun q hq=>by
 rcases hq with e|e
 ·exact Nat.lt_of_lt_of_le (h q e) hz
 ·exact e.2
theorem Qn:∀q,Ql own w w' q→own q∨w.heap.size≤q:=fun q hq=>hq.imp id fun e=>e.1
theorem Qd (hd:∀q,rsd q→own q∧W.heap.size≤q) (hz:W.heap.size≤w.heap.size) (hl:∀q,rsd' q→q<w'.heap.size) (hn:∀q,rsd' q→rsd q∨w.heap.size≤q):∀q,rsd' q→Ql own w w' q∧W.heap.size≤q:=fun q hq=>by
 rcases hn q hq with e|e
 ·exact⟨Or.inl (hd q e).1,(hd q e).2⟩
 ·exact⟨Or.inr ⟨e,hl q hq⟩,by omega⟩
theorem JE.grown (h:JE W own rsd db mb d R w) (hg:w.grownBy w' none):JE W own rsd db mb d R w':=⟨h.dr.kept hg,h.rr.kept hg,h.old,zh h.gr hg,h.od⟩
theorem JE.prog (h:JE W own rsd db mb d R w) (hd:vj own w' db d') (ht:zm (fun q=>¬own q) w w'):JE W own rsd db mb d' R w':=
 ⟨hd,h.rr.turn (ht.mono fun q hq e=>hq (h.od q e).1),h.old,ue h.gr h.old ht,h.od⟩
theorem JE.doc (h:JE W own rsd db mb d R w) (hr:R18 rsd' w' mb R') (ht:zm rsd w w') (hn:∀q,rsd' q→rsd q∨w.heap.size≤q):JE W (Ql own w w') rsd' db mb d R' w':=
 ⟨h.dr.otherM (ht.mono fun q hq=>(h.od q hq).1) Qn (Qm (fun q hq=>h.dr.own_lt hq) ht.size),hr,fun q hq=>Or.inl (h.old q hq),Qx h.gr (fun q hq=>(h.od q hq).2) ht,Qd h.od h.gr.size (fun q hq=>hr.lt hq) hn⟩
theorem JM.kr (h:JM W own rsd rss st db sb mb S D w):KR W own st db S w:=⟨h.sr,h.old,h.gr⟩
theorem S19.lt {L:List (Int × ye)} {next broken:Int} (h:S19 rss w sb db L next broken) {q:Nat} (hq:rss q):q<w.heap.size:=by
 obtain⟨lv,ms,h⟩:=h
 exact h.lt q hq
theorem JM.grown (h:JM W own rsd rss st db sb mb S D w) (hg:w.grownBy w' none):JM W own rsd rss st db sb mb S D w':=⟨h.sr.kept hg,⟨h.rp.d.kept hg,h.rp.s.kept hg,h.rp.ap⟩,h.old,zh h.gr hg,h.od,h.os⟩
theorem JM.more (h:JM W own rsd rss st db sb mb S D w) (hg:w.grownBy w' none):JM W (Ql own w w') rsd rss st db sb mb S D w':=
 have k:=h.kr.more hg
 ⟨k.rep,⟨h.rp.d.kept hg,h.rp.s.kept hg,h.rp.ap⟩,k.old,k.gr,fun q hq=>⟨Or.inl (h.od q hq).1,(h.od q hq).2⟩,fun q hq=>⟨Or.inl (h.os q hq).1,(h.os q hq).2⟩⟩
theorem JM.prog (h:JM W own rsd rss st db sb mb S D w) (hr:Ul own w' st db S') (ht:zm (fun q=>¬own q) w w'):JM W own rsd rss st db sb mb S' D w':=
 ⟨hr,⟨h.rp.d.turn (ht.mono fun q hq e=>hq (h.od q e).1),h.rp.s.same (fun q hq=>ht.block q (h.rp.s.lt hq) (fun e=>e (h.os q hq).1)) ht.size,h.rp.ap⟩,h.old,ue h.gr h.old ht,h.od,h.os⟩
theorem JM.doc (h:JM W own rsd rss st db sb mb S D w) (hp:ux rsd' rss' w' sb mb D'.R D'.L D'.next D'.broken) (ht:zm (fun q=>rsd q∨rss q) w w') (hn:∀q,rsd' q→rsd q∨w.heap.size≤q) (hn2:∀q,rss' q→rss q∨w.heap.size≤q):JM W (Ql own w w') rsd' rss' st db sb mb S D' w':=by
 have ho:∀q,(rsd q∨rss q)→own q:=fun q hq=>hq.elim (fun e=>(h.od q e).1) (fun e=>(h.os q e).1)
 exact⟨h.sr.otherM (ht.mono ho) Qn (Qm (fun q hq=>h.kr.lt hq) ht.size),hp,fun q hq=>Or.inl (h.old q hq),Qx h.gr (fun q hq=>hq.elim (fun e=>(h.od q e).2) (fun e=>(h.os q e).2)) ht,Qd h.od h.gr.size (fun q hq=>hp.d.lt hq) hn,Qd h.os h.gr.size (fun q hq=>hp.s.lt hq) hn2⟩
theorem JM.poke (h:JM W own rsd rss st db sb mb S D w) {g:Nat} (h1:own g) (h2:W.heap.size≤g) (h3:¬rsd g) (h4:¬rss g) (hg:w.grownBy w' (some g)):JM W (Ql own w w') rsd rss st db sb mb S D w':=by
 have k:=h.kr.pokeM (fun b hb=>by injection hb with hb;rw[←hb];exact⟨h1,h2⟩) hg
 exact⟨k.rep,⟨h.rp.d.same (fun q hq=>hg.block q (h.rp.d.lt hq) (fun e=>by injection e with e;exact h3 (e ▸ hq))) hg.size,h.rp.s.same (fun q hq=>hg.block q (h.rp.s.lt hq) (fun e=>by injection e with e;exact h4 (e ▸ hq))) hg.size,h.rp.ap⟩,k.old,k.gr,fun q hq=>⟨Or.inl (h.od q hq).1,(h.od q hq).2⟩,fun q hq=>⟨Or.inl (h.os q hq).1,(h.os q hq).2⟩⟩
theorem JE.opened (h:JE W own rsd db mb d R w) (hs:Ul own w' st db S) (ht:zm (fun q=>¬own q) w w'):JX W own rsd st db mb S R w':=
 ⟨hs,h.rr.turn (ht.mono fun q hq e=>hq (h.od q e).1),h.old,ue h.gr h.old ht,h.od⟩
theorem JX.opened (h:JX W own rsd st db mb S R w) (hp:ux rsd' rss' w' sb mb D'.R D'.L D'.next D'.broken) (ht:zm rsd w w') (hn:∀q,rsd' q→rsd q∨w.heap.size≤q) (hn2:∀q,rss' q→w.heap.size≤q):JM W (Ql own w w') rsd' rss' st db sb mb S D' w':=by
 have hk:KR W own st db S w:=⟨h.sr,h.old,h.gr⟩
 exact⟨h.sr.otherM (ht.mono fun q hq=>(h.od q hq).1) Qn (Qm (fun q hq=>hk.lt hq) ht.size),hp,fun q hq=>Or.inl (h.old q hq),Qx h.gr (fun q hq=>(h.od q hq).2) ht,Qd h.od h.gr.size (fun q hq=>hp.d.lt hq) hn,Qd (rsd:=fun _=>False) (fun q hq=>hq.elim) h.gr.size (fun q hq=>hp.s.lt hq) (fun q hq=>Or.inr (hn2 q hq))⟩
theorem JM.disks (h:JM W own rsd rss st db sb mb S D w):JE W own rsd db mb S.d D.R w:=by
 obtain⟨mb',tb,rv,rb,hs⟩:=h.sr
 exact⟨hs.disk.less fun k hk=>Or.inl hk,h.rp.d,h.old,h.gr,h.od⟩
end
end Go.Proofs.YtbcbhlfjgobejaaGreat
