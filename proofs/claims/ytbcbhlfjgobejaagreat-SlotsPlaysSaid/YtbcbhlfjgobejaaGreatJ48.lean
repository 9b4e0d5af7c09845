/- SlotsPlays: the disks' calls, beside the call that is done. Conditions: none, or as the theorems say. -/
import Derived.Test.YtbcbhlfjgobejaaGreatJ47
import Derived.Test.YtbcbhlfjgobejaaGreatJ34
import Derived.Deep.DeepCutAuto
import Derived.Test.YtbcbhlfjgobejaaGreatRows
import Derived.WalkKit
import Derived.ProofKit
import Derived.OpenShut
import Derived.Test.YtbcbhlfjgobejaaGreatJ32
import Derived.Deep.Slices
import Derived.Deep.Fields
import Derived.ChangeSame
import Derived.ReadAgain
import Derived.ChangeBears
import Derived.Lib.SmallJoins
import Derived.Test.YtbcbhlfjgobejaaGreatJ42
set_option linter.unusedSimpArgs false
set_option linter.unusedVariables false
namespace Go.Proofs.YtbcbhlfjgobejaaGreat
set_option maxHeartbeats 200000000
open Go.RowKit Go.Sf Go.Shelf
def zcw (xb:Nat) (x:qk) (w:World):Prop:=w.heap[xb]? = some (.cells (yr x).toArray 49 (0,0))
theorem zcw.cells {xb:Nat} {x:qk} {w:World} (h:zcw xb x w):w.cell? ⟨xb,0,none⟩=some (.int .u8 x.kind)∧w.cell? ⟨xb,1,none⟩=some (.slice x.p x.B.length x.c)∧w.cell? ⟨xb,2,none⟩=some (.int .u8 x.times)∧w.cell? ⟨xb,3,none⟩=some (.int .i64 x.n)∧w.cell? ⟨xb,4,none⟩=some (.slice x.fp x.F.length x.fc)∧xb<w.heap.size:=
 ⟨(zf h 0).trans rfl,(zf h 1).trans rfl,(zf h 2).trans rfl,(zf h 3).trans rfl,(zf h 4).trans rfl,(Array.getElem?_eq_some_iff.1 h).1⟩
def JEx (W:World) (db mb xb:Nat) (x:qk) (d:Dk) (R:RDk) (w:World):Prop:=∃own rsd,JE W own rsd db mb d R w∧own xb∧¬rsd xb∧zcw xb x w
def JMx (W:World) (st db sb mb xb:Nat) (x:qk) (S:Sto) (D:Doc) (w:World):Prop:=∃own rsd rss,JM W own rsd rss st db sb mb S D w∧own xb∧¬rsd xb∧¬rss xb∧zcw xb x w
section
variable {own rsd rss : Nat → Prop} {W w w' : World} {db mb st sb xb : Nat} {x : qk} {d d' : Dk} {R R' : RDk} {S : Sto} {D : Doc} {k : Nat} {sv kv : Value} {ev fv : Int}
theorem JE.more (h:JE W own rsd db mb d R w) (hg:w.grownBy w' none):JE W (Ql own w w') rsd db mb d R w':=
 ⟨h.dr.more hg Qn (Qm (fun q hq=>h.dr.own_lt hq) hg.size),h.rr.kept hg,fun q hq=>Or.inl (h.old q hq),zh h.gr hg,fun q hq=>⟨Or.inl (h.od q hq).1,(h.od q hq).2⟩⟩
theorem JEx.of_prog {rsd:Nat→Prop} (hj:JE W own rsd db mb d R w) (h1:own xb) (h2:¬rsd xb) (hx:zcw xb x w) (hd:vj own w' db d') (ht:zm (fun q=>¬own q) w w'):JEx W db mb xb x d' R w':=
 ⟨own,rsd,hj.prog hd ht,h1,h2,(ht.block xb hx.cells.2.2.2.2.2 (fun e=>e h1)).trans hx⟩
theorem JEx.of_doc {rsd rsd':Nat→Prop} (hj:JE W own rsd db mb d R w) (h1:own xb) (h2:¬rsd xb) (hx:zcw xb x w) (hr:R18 rsd' w' mb R') (ht:zm rsd w w') (hn:∀q,rsd' q→rsd q∨w.heap.size≤q):JEx W db mb xb x d R' w':=
 ⟨_,rsd',hj.doc hr ht hn,Or.inl h1,fun e=>(hn xb e).elim h2 (fun e=>by have:=hx.cells.2.2.2.2.2;omega),(ht.block xb hx.cells.2.2.2.2.2 h2).trans hx⟩
theorem JEx.gr (h:JEx W db mb xb x d R w):W.grownBy w none:=by
 obtain⟨_,_,h,_⟩:=h
 exact h.gr
theorem JEx.box (h:JEx W db mb xb x d R w):zcw xb x w:=by
 obtain⟨_,_,_,_,_,h⟩:=h
 exact h
theorem JEx.pcrash (h:JEx W db mb xb x d R w):Calls Tryz.prog 41 #[.pointer (some ⟨db,0,none⟩)] w fun e w'=>e = .returned (.tuple #[])∧JEx W db mb xb x d.crashed R w':=by
 obtain⟨own,rsd,hj,h1,h2,hx⟩:=h;refine(dcrash hj.dr).mono ?_;rintro e w' ⟨rfl,hd,ht⟩
 exact⟨rfl,.of_prog hj h1 h2 hx hd ht⟩
theorem JEx.dcrash (h:JEx W db mb xb x d R w):Calls Tryz.prog 42 #[.pointer (some ⟨mb,0,none⟩)] w fun e w'=>e = .returned (.tuple #[])∧JEx W db mb xb x d R.off w':=by
 obtain⟨own,rsd,hj,h1,h2,hx⟩:=h;refine(zmq hj.rr).mono ?_;rintro e w' ⟨rfl,hd,ht⟩
 exact⟨rfl,.of_doc hj h1 h2 hx hd ht fun q hq=>Or.inl hq⟩
theorem JEx.pon (h:JEx W db mb xb x d R w) (hc:jh W x) (hl:x.F.length≤1000000):Calls Tryz.prog 34 #[.pointer (some ⟨db,0,none⟩),.slice x.fp x.F.length x.fc] w fun e w'=>e = .returned (.tuple #[])∧JEx W db mb xb x (d.on x.F) R w':=by
 obtain⟨own,rsd,hj,h1,h2,hx⟩:=h;refine(don hj.dr (fun w1 ht=>hc.f.grown (ue hj.gr hj.old ht) (by simp)) hc.fb hl).mono ?_
 rintro e w' ⟨rfl,hd,ht⟩
 exact⟨rfl,.of_prog hj h1 h2 hx hd ht⟩
theorem JEx.don (h:JEx W db mb xb x d R w) (hc:jh W x) (hl:x.F.length≤1000000):Calls Tryz.prog 43 #[.pointer (some ⟨mb,0,none⟩),.slice x.fp x.F.length x.fc] w fun e w'=>e = .returned (.tuple #[])∧JEx W db mb xb x d (R.on x.F) w':=by
 obtain⟨own,rsd,hj,h1,h2,hx⟩:=h;refine(ron hj.rr (fun w1 ht=>hc.f.grown (Qx hj.gr (fun q hq=>(hj.od q hq).2) ht) (by simp)) hc.fb hl).mono ?_
 rintro e w' ⟨rfl,hd,ht⟩
 exact⟨rfl,.of_doc hj h1 h2 hx hd ht fun q hq=>Or.inl hq⟩
theorem JEx.pwrite (h:JEx W db mb xb x d R w) (hc:jh W x) (hl:d.late.length<1000000):Calls Tryz.prog 24 #[.pointer (some ⟨db,0,none⟩),.int .i64 x.n,.slice x.p x.B.length x.c] w fun e w'=>e = .returned (.int .i64 (d.writeV x.n x.B))∧JEx W db mb xb x (d.written x.n x.B) R w':=by
 obtain⟨own,rsd,hj,h1,h2,hx⟩:=h;refine(dwrite hj.dr x.n (hc.b.grown hj.gr (by simp)) hc.bb hl).mono ?_
 rintro e w' ⟨rfl,hd,ht⟩
 exact⟨rfl,.of_prog hj h1 h2 hx hd ht⟩
theorem JEx.dwrite (h:JEx W db mb xb x d R w) (hc:jh W x) (hl:yf R<1000000):Calls Tryz.prog 44 #[.pointer (some ⟨mb,0,none⟩),.int .i64 x.n,.string (ofB x.B)] w fun e w'=>e = .returned (.int .i64 (R.writeV x.n x.B))∧JEx W db mb xb x d (R.written x.n x.B) w':=by
 obtain⟨own,rsd,hj,h1,h2,hx⟩:=h;have h3:=zey hj.rr x.n (ofB x.B) (by rw[xr];exact hc.bl) hl
 rw[Zm hc.bb] at h3;refine h3.mono ?_;rintro e w' ⟨rfl,hd,ht⟩
 exact⟨rfl,.of_doc hj h1 h2 hx hd ht fun q hq=>hq.imp id fun e=>e.1⟩
def jf (W:World) (db mb xb k:Nat) (x:qk) (sv:Value) (ev:Int) (kv:Value) (fv:Int) (w:World):Prop:=
 (ev≠0∧fv=ev∧sv = .pointer none∧kv = .pointer none∧∃d R,JEx W db mb xb x d R w∧yx d R∧d.late.length≤1000*k∧d.n≤39)∨
 (ev=0∧fv=0∧∃st sb S D,sv = .pointer (some ⟨st,0,none⟩)∧kv = .pointer (some ⟨sb,0,none⟩)∧JMx W st db sb mb xb x S D w∧qm S D∧S.d.late.length≤1000*k∧S.d.n≤39∧D.L.length≤40+k)
theorem uw.boxed (h:uw W db mb k sv ev kv fv w) (hg:w.grownBy w' none) (hl:w.heap.size≤xb) (hx:zcw xb x w'):jf W db mb xb k x sv ev kv fv w':=by
 have hlt:=hx.cells.2.2.2.2.2
 rcases h with ⟨a1,a2,a3,a4,own,rsd,d,R,hj,a5⟩|⟨a1,a2,st,sb,own,rsd,rss,S,D,a3,a4,hj,a5⟩
 ·exact Or.inl ⟨a1,a2,a3,a4,d,R,⟨_,rsd,hj.more hg,Or.inr ⟨hl,hlt⟩,fun e=>by have:=hj.rr.lt e;omega,hx⟩,a5⟩
 ·exact Or.inr ⟨a1,a2,st,sb,S,D,a3,a4,⟨_,rsd,rss,hj.more hg,Or.inr ⟨hl,hlt⟩,fun e=>by have:=hj.rp.d.lt e;omega,fun e=>by have:=hj.rp.s.lt e;omega,hx⟩,a5⟩
theorem jf.plain (h:jf W db mb xb k x sv ev kv fv w):uw W db mb k sv ev kv fv w:=by
 rcases h with ⟨a1,a2,a3,a4,d,R,⟨own,rsd,hj,_⟩,a5⟩|⟨a1,a2,st,sb,S,D,a3,a4,⟨own,rsd,rss,hj,_⟩,a5⟩
 ·exact Or.inl ⟨a1,a2,a3,a4,own,rsd,d,R,hj,a5⟩
 ·exact Or.inr ⟨a1,a2,st,sb,own,rsd,rss,S,D,a3,a4,hj,a5⟩
theorem jf.box (h:jf W db mb xb k x sv ev kv fv w):zcw xb x w:=by
 rcases h with ⟨a1,a2,a3,a4,d,R,⟨own,rsd,hj,_,_,hx⟩,a5⟩|⟨a1,a2,st,sb,S,D,a3,a4,⟨own,rsd,rss,hj,_,_,_,hx⟩,a5⟩ <;> exact hx
theorem jf.disk (h:jf W db mb xb k x sv ev kv fv w):∃d R,JEx W db mb xb x d R w∧yx d R∧d.late.length≤1000*k∧d.n≤39:=by
 rcases h with ⟨a1,a2,a3,a4,d,R,hj,a5⟩|⟨a1,a2,st,sb,S,D,a3,a4,⟨own,rsd,rss,hj,h1,h2,_,hx⟩,a5,a6,a7,_⟩
 ·exact⟨d,R,hj,a5⟩
 ·exact⟨S.d,D.R,⟨own,rsd,hj.disks,h1,h2,hx⟩,a5.d,a6,a7⟩
def ze5 (W:World) (db mb xb k:Nat) (x:qk) (n:Int) (sv:Value) (ev:Int) (kv:Value) (fv:Int) (w:World):Prop:=
 (ev≠0∧fv=ev∧sv = .pointer none∧kv = .pointer none∧∃d R,JEx W db mb xb x (d.failed n) R w∧yx d R∧d.late.length≤1000*k∧d.n≤39)∨
 (ev=0∧fv=0∧∃st sb S D,sv = .pointer (some ⟨st,0,none⟩)∧kv = .pointer (some ⟨sb,0,none⟩)∧JMx W st db sb mb xb x { S with d:=S.d.failed n } D w∧qm S D∧S.d.late.length≤1000*k∧S.d.n≤39∧D.L.length≤40+k)
theorem ze5.box {n:Int} (h:ze5 W db mb xb k x n sv ev kv fv w):zcw xb x w:=by
 rcases h with ⟨a1,a2,a3,a4,d,R,⟨own,rsd,hj,_,_,hx⟩,a5⟩|⟨a1,a2,st,sb,S,D,a3,a4,⟨own,rsd,rss,hj,_,_,_,hx⟩,a5⟩ <;> exact hx
theorem jf.pfail (h:jf W db mb xb k x sv ev kv fv w) (n:Int) (hn:n<9223372036854775808):Calls Tryz.prog 28 #[.pointer (some ⟨db,0,none⟩),.int .i64 n] w fun e w'=>e = .returned (.tuple #[])∧ze5 W db mb xb k x n sv ev kv fv w':=by
 rcases h with ⟨a1,a2,a3,a4,d,R,⟨own,rsd,hj,h1,h2,hx⟩,a5⟩|⟨a1,a2,st,sb,S,D,a3,a4,⟨own,rsd,rss,hj,h1,h2,h3,hx⟩,a5⟩
 ·refine(dfail hj.dr n hn).mono ?_
  rintro e w' ⟨rfl,hd,ht⟩
  exact⟨rfl,Or.inl ⟨a1,a2,a3,a4,d,R,.of_prog hj h1 h2 hx hd ht,a5⟩⟩
 ·refine(hj.kr.fail n hn).mono ?_
  rintro e w' ⟨rfl,hk,ht⟩
  exact⟨rfl,Or.inr ⟨a1,a2,st,sb,S,D,a3,a4,⟨own,rsd,rss,hj.prog hk.rep ht,h1,h2,h3,(ht.block xb hx.cells.2.2.2.2.2 (fun e=>e h1)).trans hx⟩,a5⟩⟩
theorem ze5.dfail {n:Int} (h:ze5 W db mb xb k x n sv ev kv fv w) (hn:n<9223372036854775808):Calls Tryz.prog 40 #[.pointer (some ⟨mb,0,none⟩),.int .i64 n] w fun e w'=>e = .returned (.tuple #[])∧uw W db mb k sv ev kv fv w':=by
 rcases h with ⟨a1,a2,a3,a4,d,R,⟨own,rsd,hj,h1,h2,hx⟩,a5,a6⟩|⟨a1,a2,st,sb,S,D,a3,a4,⟨own,rsd,rss,hj,h1,h2,h3,hx⟩,a5,a6⟩
 ·refine(rfail hj.rr n hn).mono ?_
  rintro e w' ⟨rfl,hd,ht⟩
  exact⟨rfl,Or.inl ⟨a1,a2,a3,a4,_,rsd,_,_,hj.doc hd ht (fun q hq=>Or.inl hq),zdz a5 n,a6⟩⟩
 ·refine(rfail hj.rp.d n hn).mono ?_
  rintro e w' ⟨rfl,hd,ht⟩;refine⟨rfl,Or.inr ⟨a1,a2,st,sb,_,rsd,rss,_,{ D with R:=D.R.failed n },a3,a4,hj.doc (D':={ D with R:=D.R.failed n }) ⟨hd,hj.rp.s.past hj.rp.ap ht,hj.rp.ap⟩ (ht.mono fun q hq=>Or.inl hq) (fun q hq=>Or.inl hq) (fun q hq=>Or.inl hq),?_,a6⟩⟩
  exact a5.disk (zdz a5.d n) (by show -1≤max (-1) n;omega) rfl S.broken D.broken a5.broken
end
section
variable {W w w' : World} {db mb k : Nat} {sv kv : Value} {ev fv : Int}
theorem uw.grown (h:uw W db mb k sv ev kv fv w) (hg:w.grownBy w' none):uw W db mb k sv ev kv fv w':=by
 rcases h with ⟨a1,a2,a3,a4,own,rsd,d,R,hj,a5⟩|⟨a1,a2,st,sb,own,rsd,rss,S,D,a3,a4,hj,a5⟩
 ·exact Or.inl ⟨a1,a2,a3,a4,own,rsd,d,R,hj.grown hg,a5⟩
 ·exact Or.inr ⟨a1,a2,st,sb,own,rsd,rss,S,D,a3,a4,hj.grown hg,a5⟩
theorem uw.gr (h:uw W db mb k sv ev kv fv w):W.grownBy w none:=by
 rcases h with ⟨a1,a2,a3,a4,own,rsd,d,R,hj,a5⟩|⟨a1,a2,st,sb,own,rsd,rss,S,D,a3,a4,hj,a5⟩ <;> exact hj.gr
theorem uw.up (h:uw W db mb k sv ev kv fv w):uw W db mb (k+1) sv ev kv fv w:=by
 rcases h with ⟨a1,a2,a3,a4,own,rsd,d,R,hj,a5,a6,a7⟩|⟨a1,a2,st,sb,own,rsd,rss,S,D,a3,a4,hj,a5,a6,a7,a8⟩
 ·exact Or.inl ⟨a1,a2,a3,a4,own,rsd,d,R,hj,a5,by omega,a7⟩
 ·exact Or.inr ⟨a1,a2,st,sb,own,rsd,rss,S,D,a3,a4,hj,a5,by omega,a7,by omega⟩
theorem uw.lies (h:uw W db mb k sv ev kv fv w):Calls Tryz.prog 38 #[.pointer (some ⟨db,0,none⟩),.pointer (some ⟨mb,0,none⟩)] w fun e w'=>e = .returned (.bool true)∧w.grownBy w' none:=by
 rcases h with ⟨a1,a2,a3,a4,own,rsd,d,R,hj,a5,_⟩|⟨a1,a2,st,sb,own,rsd,rss,S,D,a3,a4,hj,a5,_⟩
 ·exact zfx hj.dr hj.rr a5
 ·exact zfx hj.disks.dr hj.disks.rr a5.d
theorem uw.form (h:uw W db mb k sv ev kv fv w) (hk:k≤100):(ev≠0∧fv=ev∧sv = .pointer none∧kv = .pointer none)∨(ev=0∧fv=0∧∃st sb,sv = .pointer (some ⟨st,0,none⟩)∧kv = .pointer (some ⟨sb,0,none⟩)∧∀w2,w.grownBy w2 none→Calls Tryz.prog 39 #[.pointer (some ⟨st,0,none⟩),.pointer (some ⟨sb,0,none⟩)] w2 fun e w'=>e = .returned (.bool true)∧w2.grownBy w' none):=by
 rcases h with ⟨a1,a2,a3,a4,_⟩|⟨a1,a2,st,sb,own,rsd,rss,S,D,a3,a4,hj,a5,_,_,a6⟩
 ·exact Or.inl ⟨a1,a2,a3,a4⟩
 ·exact Or.inr ⟨a1,a2,st,sb,a3,a4,fun w2 hg=>zk1 (hj.grown hg).sr (hj.grown hg).rp a5 (by omega)⟩
theorem ziv (d:Dk) (F:List Int):(d.on F).late.length≤d.late.length∧(d.on F).n=d.n:=by
 unfold Dk.on
 split
 ·exact⟨Nat.zero_le _,rfl⟩
 ·exact⟨Nat.le_refl _,rfl⟩
def PLoop (W:World) (db mb m:Nat) (s e k f i:Value) (wr:World):Prop:=∃(j:Nat) (ev fv:Int),j≤m∧i = .int .i64 (j:Int)∧e = .int .i64 ev∧f = .int .i64 fv∧uw W db mb (j+1) s ev k fv wr
theorem JEx.w0 {xb:Nat} {x:qk} {d:Dk} {R:RDk} (h:JEx W db mb xb x d R w) : -1≤d.well:=by
 obtain⟨_,_,h,_⟩:=h
 exact h.dr.w0
theorem jf.does {xb:Nat} {x:qk} (h:jf W db mb xb k x sv 0 kv fv w) (hc:jh W x) (hk:k≤100):∃st sb,sv = .pointer (some ⟨st,0,none⟩)∧kv = .pointer (some ⟨sb,0,none⟩)∧Calls Tryz.prog 45 #[.pointer (some ⟨st,0,none⟩),.pointer (some ⟨sb,0,none⟩),.agg (yr x).toArray] w fun e w'=>e = .returned (.bool true)∧uw W db mb (k+1) sv 0 kv fv w':=by
 rcases h with ⟨a1,_⟩|⟨a1,a2,st,sb,S,D,a3,a4,⟨own,rsd,rss,hj,_⟩,a5,a6,a7,a8⟩
 ·exact absurd rfl a1
 ·refine⟨st,sb,a3,a4,(zlk hj a5 (by omega) (by omega) hc).mono ?_⟩
  rintro e w' ⟨rfl,own',rsd',rss',S',D',h1,h2,h3⟩;have b1:=h3.late;have b2:=h3.n;have b3:=h3.len
  exact⟨rfl,Or.inr ⟨rfl,a2,st,sb,own',rsd',rss',S',D',a3,a4,h1,h2,by omega,by omega,by omega⟩⟩
theorem JEx.popen {xb:Nat} {x:qk} {d:Dk} {R:RDk} (h:JEx W db mb xb x d R w) (hs:yx d R) (hl:d.late.length+100≤1000*k) (hk:k≤100) (hn:d.n≤39):Calls Tryz.prog 18 #[.pointer (some ⟨db,0,none⟩)] w fun e w'=>∃sv ev,e = .returned (.tuple #[sv,.int .i64 ev])∧POpen W db mb R k sv ev w':=by
 obtain⟨own,rsd,hj,_⟩:=h
 exact zds hj hs hl hk hn
end
set_option maxRecDepth 100000 in
theorem zhu (nb:Nat) (hnb:nb<256) (v2:Value) (l:List qk) (W:World) (h1:zd9 W v2 l):Calls Tryz.prog 6 #[.int .u8 (nb:Int),v2] W fun e w'=>e = .returned (.bool true)∧W.grownBy w' none:=by
 have HLA:=zd (zft v2 l W h1);have HW:=zd zid;obtain⟨p1,cap1,rfl,hl1,hok,hrow⟩:=h1;have HOK:=zd hok;have HROW:=zd hrow;obtain⟨m,hm⟩:∃m,m=l.length:=⟨_,rfl⟩;have HM:=zd hm;rw[←hm] at HLA hl1 ⊢;clear hok hrow hm;have HN:Hid (∀w:World,Calls Tryz.prog 19 #[.int .i64 ((nb:Int)%40)] w fun e w'=>∃db,e = .returned (.pointer (some ⟨db,0,none⟩))∧w.grownBy w' none∧w.heap.size≤db∧∀own:Nat→Prop,(∀k,own k→k<w.heap.size)→vj own w' db (Dk.new ((nb:Int)%40))):=(fun w=>dnew _ w)
 have HR:Hid (∀w:World,Calls Tryz.prog 36 #[.int .i64 ((nb:Int)%40)] w fun e w'=>∃db,e = .returned (.pointer (some ⟨db,0,none⟩))∧w.grownBy w' none∧R18 (fun k=>w.heap.size≤k∧k<w'.heap.size) w' db (RDk.new ((nb:Int)%40))):=(fun w=>rnew _ (by omega) w)
 have HSN:=zd (zm0 ((nb:Int)%40));have HNN:Hid ((Dk.new ((nb:Int)%40)).n≤39∧(Dk.new ((nb:Int)%40)).late.length=0):=(show _∧_ from ⟨by show(min 4096 (max 0 ((nb:Int)%40))).toNat≤39;omega,rfl⟩)
 go_enter Tryz.func6,Tryz.ntmps6
 go_upto_region 4 with (first
  | (go_at_call 27;refine HLA.out.mono ?_;rintro e w1 ⟨r,rfl,hg,hr⟩;have HG1:=zd hg;have HR1:=zd hr;clear hg hr HLA)
  | (go_at_call 17;refine(HW.out _).mono ?_;rintro e w2 ⟨rfl,hg⟩;have HG2:=zd hg;clear hg)
  | (go_at_call 19;refine(HN.out _).mono ?_;rintro e w2 ⟨db,rfl,hg,hle,hd⟩;have HG2:=zd hg;have HD2:=zd (hd (fun k=>k<w1.heap.size) (fun k hk=>hk));clear hg hle hd HN)
  | (go_at_call 36;refine(HR.out _).mono ?_;rintro e w3 ⟨mb,rfl,hg,hr⟩;have HG3:=zd hg;have HR3:=zd hr;clear hg hr HR))
 ·go_ret
  exact⟨rfl,zh HG1.out HG2.out⟩
 ·have HLEN:=zd (HR1.out (by first|assumption|simp_all))
  clear HR1;have HJ:Hid (JE W (Ql (fun k=>k<w1.heap.size) w2 w3) (fun k=>w2.heap.size≤k∧k<w3.heap.size) db mb (Dk.new ((nb:Int)%40)) (RDk.new ((nb:Int)%40)) w3):=(show JE _ _ _ _ _ _ _ _ from
   ⟨HD2.out.more HG3.out Qn (Qm (fun q hq=>HD2.out.own_lt hq) HG3.out.size),HR3.out,fun q hq=>Or.inl (Nat.lt_of_lt_of_le hq HG1.out.size),zh HG1.out (zh HG2.out HG3.out),fun q hq=>⟨Or.inr hq,by have:=HG1.out.size;have:=HG2.out.size;omega⟩⟩)
  have HPO:=zd (zds (k:=1) HJ.out HSN.out (by rw[HNN.out.2];omega) (by omega) HNN.out.1)
  clear HD2 HR3 HG1 HG2 HG3 HJ HSN;generalize Dk.new ((nb:Int)%40)=d0 at *;generalize RDk.new ((nb:Int)%40)=R0 at *
  go_upto_region 6 with (first
   | (go_at_call 18;refine HPO.out.mono ?_;rintro e w4 ⟨sv,ev,rfl,hp⟩;have HP4:=zd (Yz hp (by omega));clear hp)
   | (go_at_call 37;refine HP4.out.mono ?_;rintro e w5 ⟨kv,fv,rfl,hp⟩;have HP5:=zd hp;clear hp))
  clear HPO HP4 HNN
  go_upto_region 7 with fail
  go_loopw [7,8,9,10,11] (fun s e k f i wr=>PLoop W db mb m s e k f i wr) (fun _ _ _ _ i _=>m-(intOf i).toNat)
  case atStart=>exact⟨0,ev,fv,by omega,rfl,rfl,rfl,HP5.out⟩
  case round=>
   clear HP5;obtain⟨j,ev2,fv2,hj,rfl,rfl,rfl,hp⟩:=hrel;have HP:=zd hp;clear hp;have HL60:Hid (m≤60):=(show _≤_ from by have:=HLEN.out.1;have:=HM.out;omega)
   have HLI:=zd HP.out.lies;have HFO:=zd (HP.out.form (by have:=HL60.out;omega))
   by_cases hjm:j<m
   ·go_upto_region 9 with fail
    go_cut [65] from 40 to 65 (fun c wx=>c = .bool false∧wr.grownBy wx none)
    case first=>
     rcases HFO.out with ⟨hez,rfl,rfl,rfl⟩|⟨rfl,rfl,st,sb,rfl,rfl,ht⟩
     ·go_wp2_with (go_at_call 38;refine HLI.out.mono ?_;rintro e w2 ⟨rfl,hg⟩;have HG2:=zd hg;clear hg)
      go_meet
      case rel=>exact⟨by simp[hez],HG2.out⟩
     ·have HT:=zd ht
      clear ht
      go_wp2_with (first
       | (go_at_call 38;refine HLI.out.mono ?_;rintro e w2 ⟨rfl,hg⟩;have HG2:=zd hg;clear hg)
       | (go_at_call 39;refine(HT.out _ HG2.out).mono ?_;rintro e w3 ⟨rfl,hg⟩;have HG3:=zd (zh HG2.out hg);clear hg))
      go_meet
      case rel=>exact⟨by simp,HG3.out⟩
    case rest=>
     obtain⟨rfl,hgc⟩:=hcut;have HPC:=zd (HP.out.grown hgc);clear HP HLI HFO hgc;have hkl:j<l.length:=by rw[←HM.out];exact hjm
     have hgetD:l.getD j zff=l[j]:=by simp[List.getD_eq_getElem?_getD,List.getElem?_eq_getElem hkl]
     obtain⟨b1,off1,rfl,hcx⟩:∃b off,p1=some ⟨b,off,none⟩∧∀q u,(yr l[j])[q]? = some u→wc.cell? ⟨b,off+j*5+q,none⟩=some u:=by
      rcases HROW.out with h0|⟨b,off,rfl,h1⟩
      ·rw[h0] at hkl;simp at hkl
      ·exact⟨b,off,rfl,fun q u hu=>HPC.out.gr.cell (h1 j hkl q u (by rw[hgetD];exact hu)) (by simp)⟩
     have HX:=zd (HOK.out l[j] (List.getElem_mem hkl));have HXL:=zd (HLEN.out.2 l[j] (List.getElem_mem hkl));clear hgetD;generalize l[j]=x at *;have x0:=hcx 0 (.int .u8 x.kind) rfl;have x1:=hcx 1 (.slice x.p x.B.length x.c) rfl;have x2:=hcx 2 (.int .u8 x.times) rfl;have x3:=hcx 3 (.int .i64 x.n) rfl;have x4:=hcx 4 (.slice x.fp x.F.length x.fc) rfl;rw[Nat.add_zero] at x0;have hlt1:=xo x0;clear hcx hkl;have HSX:Hid (∀wa,wc.alloc (.cells (yr x).toArray 49)=wa→jf W db mb wc.heap.size (j+1) x u7 ev2 u9 fv2 wa):=(fun wa h=>by
      subst h
      exact HPC.out.boxed (ze _ _ none) (Nat.le_refl _) (heap_alloc_new _ _))
     have hk0:=HX.out.k
     go_upto_region 12 with fail
     generalize hWA:wc.alloc (.cells #[.int .u8 x.kind,.slice x.p x.B.length x.c,.int .u8 x.times,.int .i64 x.n,.slice x.fp x.F.length x.fc] 49)=wa at *;have HS:=zd (HSX.out wa hWA);clear hWA HSX x0 x1 x2 x3 x4 hlt1;generalize wc.heap.size=xb at *;obtain⟨y0,y1,y2,y3,y4,hxlt⟩:=HS.out.box.cells;clear HPC
     by_cases c7:x.kind%12=7
     ·have hb9:x.n.tmod 9<9223372036854775808:=by have:=Int.tmod_lt_of_pos x.n (show(0:Int)<9 by decide);omega
      have HB9:=zd hb9;have HPF:=zd (HS.out.pfail (x.n.tmod 9) hb9);obtain⟨n9,hn9⟩:∃n9,n9=x.n.tmod 9:=⟨_,rfl⟩;rw[←hn9] at HPF HB9;have HN9:Hid (x.n.tmod 9=n9):=(show _=_ from hn9.symm)
      clear hb9 hn9 HS
      go_wp2_with (first
         | (refine Yi _ rfl _ _ _ _ rfl x.n 9 n9 rfl rfl (by decide) HN9.out ?_)
         | (go_at_call 28;refine HPF.out.mono ?_;rintro e w2 ⟨rfl,hp⟩;have HP2:=zd hp;clear hp y0 y1 y2 y3 y4 hxlt;obtain⟨z0,z1,z2,z3,z4,z5⟩:=HP2.out.box.cells)
         | (go_at_call 40;refine(HP2.out.dfail HB9.out).mono ?_;rintro e w3 ⟨rfl,hp⟩;have HP3:=zd hp.up;clear hp))
      exact⟨⟨j+1,ev2,fv2,by omega,by simp,rfl,rfl,HP3.out⟩,by simp[intOf];omega⟩
     ·by_cases c8:x.kind%12=8
      ·obtain⟨d,R,hjx,hsd,hlt,hn⟩:=HS.out.disk
       have HJ1:=zd hjx;have HSD:Hid (yx (d.crashed.on x.F) (R.off.on x.F)):=(show yx _ _ from zi4 (zck hsd) x.F)
       have HLT:Hid ((d.crashed.on x.F).late.length≤1000*(j+1)∧(d.crashed.on x.F).n≤39):=(show _∧_ from by
        have h1:=ziv d.crashed x.F;have h2:d.crashed.late.length=d.late.length:=rfl;have h3:d.crashed.n=d.n:=rfl;omega)
       have HFL:Hid (x.F.length≤1000000):=(show _≤_ from by have:=HXL.out.2;omega)
       clear hjx hsd hlt hn HS
       go_wp2_with (first
          | (go_at_call 41;refine HJ1.out.pcrash.mono ?_;rintro e w2 ⟨rfl,h⟩;have HJ2:=zd h;clear h y0 y1 y2 y3 y4 hxlt)
          | (go_at_call 42;refine HJ2.out.dcrash.mono ?_;rintro e w3 ⟨rfl,h⟩;have HJ3:=zd h;clear h;obtain⟨z0,z1,z2,z3,z4,z5⟩:=HJ3.out.box.cells)
          | (go_at_call 34;refine(HJ3.out.pon HX.out HFL.out).mono ?_;rintro e w4 ⟨rfl,h⟩;have HJ4:=zd h;clear h z0 z1 z2 z3 z4 z5;obtain⟨z0,z1,z2,z3,z4,z5⟩:=HJ4.out.box.cells)
          | (go_at_call 43;refine(HJ4.out.don HX.out HFL.out).mono ?_;rintro e w5 ⟨rfl,h⟩;have HJ5:=zd h;clear h z0 z1 z2 z3 z4 z5)
          | (go_at_call 18;refine(HJ5.out.popen (k:=j+2) HSD.out (by have:=HLT.out;omega) (by have:=HL60.out;omega) (by have:=HLT.out;omega)).mono ?_;rintro e w8 ⟨sv8,ev8,rfl,hp⟩;have HP8:=zd (Yz hp (by have:=HL60.out;omega));clear hp)
          | (go_at_call 37;refine HP8.out.mono ?_;rintro e w9 ⟨kv9,fv9,rfl,hp⟩;have HP9:=zd hp;clear hp))
       exact⟨⟨j+1,ev8,fv9,by omega,by simp,rfl,rfl,HP9.out⟩,by simp[intOf];omega⟩
      ·by_cases c11:x.kind%12=11
       ·obtain⟨d,R,hjx,hsd,hlt,hn⟩:=HS.out.disk
        have HJ1:=zd hjx;have HSD:Hid (yx (d.crashed.on x.F) (R.off.on x.F)):=(show yx _ _ from zi4 (zck hsd) x.F)
        have HLT:Hid ((d.crashed.on x.F).late.length≤1000*(j+1)∧(d.crashed.on x.F).n≤39):=(show _∧_ from by
         have h1:=ziv d.crashed x.F;have h2:d.crashed.late.length=d.late.length:=rfl;have h3:d.crashed.n=d.n:=rfl;omega)
        have HFL:Hid (x.F.length≤1000000):=(show _≤_ from by have:=HXL.out.2;omega)
        clear hjx hsd hlt hn HS
        go_wp2_with (first
           | (go_at_call 41;refine HJ1.out.pcrash.mono ?_;rintro e w2 ⟨rfl,h⟩;have HJ2:=zd h;clear h y0 y1 y2 y3 y4 hxlt)
           | (go_at_call 42;refine HJ2.out.dcrash.mono ?_;rintro e w3 ⟨rfl,h⟩;have HJ3:=zd h;clear h;obtain⟨z0,z1,z2,z3,z4,z5⟩:=HJ3.out.box.cells)
           | (go_at_call 34;refine(HJ3.out.pon HX.out HFL.out).mono ?_;rintro e w4 ⟨rfl,h⟩;have HJ4:=zd h;clear h z0 z1 z2 z3 z4 z5;obtain⟨z0,z1,z2,z3,z4,z5⟩:=HJ4.out.box.cells)
           | (go_at_call 43;refine(HJ4.out.don HX.out HFL.out).mono ?_;rintro e w5 ⟨rfl,h⟩;have HJ5:=zd h;clear h z0 z1 z2 z3 z4 z5)
           | (go_at_call 18;refine(HJ5.out.popen (k:=j+2) HSD.out (by have:=HLT.out;omega) (by have:=HL60.out;omega) (by have:=HLT.out;omega)).mono ?_;rintro e w8 ⟨sv8,ev8,rfl,hp⟩;have HP8:=zd (Yz hp (by have:=HL60.out;omega));clear hp)
           | (go_at_call 37;refine HP8.out.mono ?_;rintro e w9 ⟨kv9,fv9,rfl,hp⟩;have HP9:=zd hp;clear hp))
        exact⟨⟨j+1,ev8,fv9,by omega,by simp,rfl,rfl,HP9.out⟩,by simp[intOf];omega⟩
       ·by_cases c9:x.kind%12=9
        ·obtain⟨d,R,hjx,hsd,hlt,hn⟩:=HS.out.disk
         have HJ1:=zd hjx;have HSD:=zd hsd;have HLT:Hid (d.late.length≤1000*(j+1)∧d.n≤39):=(show _∧_ from ⟨hlt,hn⟩)
         clear hjx hsd hlt hn HS
         go_wp2_with (first
            | (go_at_call 18;refine(HJ1.out.popen (k:=j+2) HSD.out (by have:=HLT.out;omega) (by have:=HL60.out;omega) (by have:=HLT.out;omega)).mono ?_;rintro e w8 ⟨sv8,ev8,rfl,hp⟩;have HP8:=zd (Yz hp (by have:=HL60.out;omega));clear hp)
            | (go_at_call 37;refine HP8.out.mono ?_;rintro e w9 ⟨kv9,fv9,rfl,hp⟩;have HP9:=zd hp;clear hp))
         exact⟨⟨j+1,ev8,fv9,by omega,by simp,rfl,rfl,HP9.out⟩,by simp[intOf];omega⟩
        ·by_cases c10:x.kind%12=10
         ·obtain⟨d,R,hjx,hsd,hlt,hn⟩:=HS.out.disk
          have HJ1:=zd hjx;have HSD:Hid (yx (d.written x.n x.B) (R.written x.n x.B)):=(show yx _ _ from (Xr hsd HJ1.out.w0 x.n x.B).2)
          have HLT:Hid ((d.written x.n x.B).late.length≤1000*(j+1)+1∧(d.written x.n x.B).n≤39):=(show _∧_ from by
           have h1:=Zb d x.n x.B;rw[Za];omega)
          have HL2:Hid (d.late.length<1000000∧yf R<1000000):=(show _∧_ from by have:=HL60.out;rw[hsd.open];omega)
          clear hjx hsd hlt hn HS
          go_wp2_with (first
             | (go_at_call 24;refine(HJ1.out.pwrite HX.out HL2.out.1).mono ?_;rintro e w2 ⟨rfl,h⟩;have HJ2:=zd h;have hcv:=Yy (HX.out.b.grown h.gr (by simp));clear h y0 y1 y2 y3 y4 hxlt;obtain⟨z0,z1,z2,z3,z4,z5⟩:=HJ2.out.box.cells)
             | (go_at_call 44;refine(HJ2.out.dwrite HX.out HL2.out.2).mono ?_;rintro e w3 ⟨rfl,h⟩;have HJ3:=zd h;clear h z0 z1 z2 z3 z4 z5 hcv)
             | (go_at_call 18;refine(HJ3.out.popen (k:=j+2) HSD.out (by have:=HLT.out;omega) (by have:=HL60.out;omega) (by have:=HLT.out;omega)).mono ?_;rintro e w8 ⟨sv8,ev8,rfl,hp⟩;have HP8:=zd (Yz hp (by have:=HL60.out;omega));clear hp)
             | (go_at_call 37;refine HP8.out.mono ?_;rintro e w9 ⟨kv9,fv9,rfl,hp⟩;have HP9:=zd hp;clear hp))
          exact⟨⟨j+1,ev8,fv9,by omega,by simp,rfl,rfl,HP9.out⟩,by simp[intOf];omega⟩
         ·by_cases hez:ev2=0
          ·subst hez
           obtain⟨st,sb,rfl,rfl,hcall⟩:=HS.out.does HX.out (by have:=HL60.out;omega)
           have HCA:Hid (Calls Tryz.prog 45 #[.pointer (some ⟨st,0,none⟩),.pointer (some ⟨sb,0,none⟩),.agg #[.int .u8 x.kind,.slice x.p x.B.length x.c,.int .u8 x.times,.int .i64 x.n,.slice x.fp x.F.length x.fc]] wa fun e w'=>e = .returned (.bool true)∧uw W db mb (j+1+1) (.pointer (some ⟨st,0,none⟩)) 0 (.pointer (some ⟨sb,0,none⟩)) fv2 w'):=(show Calls _ _ _ _ _ from hcall)
           clear hcall HS
           go_wp2_with (go_at_call 45;refine HCA.out.mono ?_;rintro e w2 ⟨rfl,hp⟩;have HP2:=zd hp;clear hp)
           exact⟨⟨j+1,0,fv2,by omega,by simp,rfl,rfl,HP2.out⟩,by simp[intOf];omega⟩
          ·have HP2:=zd HS.out.plain.up
           clear HS;go_wp2
           exact⟨⟨j+1,ev2,fv2,by omega,by simp,rfl,rfl,HP2.out⟩,by simp[intOf];omega⟩
   ·obtain rfl:j=m:=by omega
    rcases HFO.out with ⟨hez,rfl,rfl,rfl⟩|⟨rfl,rfl,st,sb,rfl,rfl,ht⟩
    ·go_wp2_with (first
      | (go_at_call 38;refine HLI.out.mono ?_;rintro e w2 ⟨rfl,hg⟩;have HG2:=zd (zh HP.out.gr hg);clear hg)
      | (go_at_call 17;refine(HW.out _).mono ?_;rintro e w3 ⟨rfl,hg⟩;have HG3:=zd hg;clear hg))
     go_ret
     exact⟨rfl,zh HG2.out HG3.out⟩
    ·have HT:=zd ht
     clear ht
     go_wp2_with (first
      | (go_at_call 38;refine HLI.out.mono ?_;rintro e w2 ⟨rfl,hg⟩;have HG2:=zd hg;clear hg)
      | (go_at_call 39;refine(HT.out _ HG2.out).mono ?_;rintro e w3 ⟨rfl,hg⟩;have HG3:=zd (zh HP.out.gr (zh HG2.out hg));clear hg)
      | (go_at_call 17;refine(HW.out _).mono ?_;rintro e w4 ⟨rfl,hg⟩;have HG4:=zd hg;clear hg))
     go_ret
     exact⟨rfl,zh HG3.out HG4.out⟩
end Go.Proofs.YtbcbhlfjgobejaaGreat
namespace Go.Sf
open Go.ChangeShapes Go.WideShapes Go.ChangeAt Go.RowKit
variable {P : Program} {H : Type} {enc : TypeId × Value → H}
theorem post_of_grown {f:Func} {s:ChangeSpec} {apart fresh handsOn again:Bool} {W W':World} {args:Array Value} {v:Value} {ds gs:List (DataW H)} {before pa pv:List MemPlace}
  (hW:DataW.Whole enc P f.params.toList s.vars apart W args.toList ds gs before)
  (hres:∀(b:Nat) (sp:Nat→Bool) (hd:Bool),DataW.TrodAll enc P W' b sp hd f.resultTypes.toList (v.resultList f.resultTypes.size) (s.fn H (ds++gs)).results [])
  (hargs:∀sp:Nat→Bool,(∀p∈before,sp p.block=true)→DataW.TrodAll enc P W' 0 sp true f.params.toList args.toList (s.fn H (ds++gs)).args pa)
  (hvars:∀sp:Nat→Bool,(∀p∈before,sp p.block=true)→DataW.TrodVars enc P W' sp s.vars (s.fn H (ds++gs)).vars pv)
  (hps:before=pa++pv) (hg:W.grownBy W' none)
  (hok:∀(j:Nat) (t:TypeId) (r:Value),f.resultTypes[j]? = some t→(v.resultList f.resultTypes.size)[j]? = some r→Value.okWide P W' .any 0 t r) :
  s.post enc P f apart fresh handsOn again W args v W':=by
 have hold:∀p∈before,(fun b=>decide (b<W.heap.size)) p.block=true:=fun p hp=>by simpa using hW.lt p hp
 have hlt:∀p∈before,p.block<W.heap.size:=fun p hp=>hW.lt p hp
 refine⟨ds,gs,before,[],pa,pv,hW,hres _ _ _,hargs _ hold,hvars _ hold,⟨hg.os,hg.output,fun i hi=>by rw[hg.block i hi (by simp)];exact(World.keptBut_refl W (fun p=>p∈before∧(p∈[]∨p∈pa∨p∈pv))).2.2 i hi⟩,fun _=>?_⟩
 obtain⟨_,_,_,_,_,hz,hn⟩:=hW;refine⟨hok,_,_,([]++pa)++pv,⟨[]++pa,pv,trodAll_append (hargs _ (fun _ _=>rfl)) (hres _ _ _),hvars _ (fun _ _=>rfl),rfl,?_,?_⟩,?_⟩
 ·intro b off hp
  have hp':MemPlace.cell b off∈before:=by rw[hps];simpa using hp
  rw[World.frozen?_of_block (a:=⟨b,off,none⟩) (hg.block b (hlt _ hp') (by simp))]
  exact hz b off hp'
 ·intro ha
  have:=hn ha;rw[hps] at this;simpa using this
 ·intro p hp _
  rw[hps];simpa using hp
end Go.Sf
namespace Go.Proofs.YtbcbhlfjgobejaaGreat
open Go.ChangeShapes Go.WideShapes Go.ChangeAt Go.RowKit Go.Deep Go.Sf Go.Joins
section
variable {H : Type} {enc : TypeId × Value → H} {P : Program} {w : World} {base : Nat} {spare : Nat → Bool} {held : Bool}
theorem Qh {t e:TypeId} {fs:Array Field} {fuel:Nat} {cs:List Value} {x:DataW H × List MemPlace} (ht:P.underlying t=some (.slice e)) (he:P.underlying e=some (.struct fs))
  (hone:oneCellFields P fs=true) (hC:P.cellsOf e=fs.size) (h:DataW.trod enc P w base spare held fuel t cs=some x) :
  (cs = [.slice none 0 0]∧x=(.nil,[]))∨
  ∃(a:Addr) (len cap m:Nat) (D:Nat→DataW H) (Pl:Nat→List MemPlace),cs = [.slice (some a) len cap]∧base≤a.block∧len≤cap∧cap≤maxLen∧m=(if spare a.block then cap else len)∧
   x=(.slice ((List.range len).map D) ((List.range (m-len)).map fun j=>D (len+j)),MemPlace.row a (m*fs.size)++(List.range m).flatMap Pl)∧
   ∀i,i<m→∃(ys:List (DataW H × List MemPlace)) (n:Nat),D i = .agg (ys.map (·.1))∧Pl i=ys.flatMap (·.2)∧ys.length=fs.size∧
    ∀(j:Nat) (f:Field),fs[j]? = some f→∃(v:Value) (y:DataW H × List MemPlace),w.cell? (a.add (i*fs.size+j))=some v∧ys[j]? = some y∧DataW.trod enc P w base spare held n f.type [v]=some y:=by
 rcases open_slice ht h with h0|⟨a,len,cap,m,n,D,Pl,hcs,hb,hl,hm,hmm,hx,hi⟩
 ·exact .inl h0
 ·refine .inr ⟨a,len,cap,m,D,Pl,hcs,hb,hl,hm,hmm,by rw[hC] at hx;exact hx,fun i him=>?_⟩
  obtain⟨cs',hc,ht'⟩:=hi i him;rw[hC] at hc;obtain⟨ys,n',hn',hy,hlen,hyl,hf⟩:=DataW.trod_struct he ht';obtain⟨_,hcl,hat⟩:=World.cells?_some hc;simp only[Prod.mk.injEq] at hy;refine⟨ys,n',hy.1,hy.2,hyl,fun j f hj=>?_⟩
  obtain⟨ho,hk⟩:=hone_of hone j f hj;have hjl:j<fs.size:=(Array.getElem?_eq_some_iff.1 hj).1;have hcell:=hat j hjl;have hv:cs'[j]? = some (cs'[j]'(by omega)):=List.getElem?_eq_getElem (by omega)
  have h1:=hf j f hj;rw[ho,hk] at h1;have hone':(cs'.drop j).take 1 = [cs'[j]'(by omega)]:=by
   rw[List.drop_eq_getElem_cons (by omega)]
   rfl
  rw[hone'] at h1;have hys:ys[j]? = some (ys[j]'(by omega)):=List.getElem?_eq_getElem (by omega)
  refine⟨_,_,?_,hys,h1.trans hys⟩;rw[←Go.Deep.add_add,hcell,hv]
end
section
variable {H : Type} {enc : TypeId × Value → H} {P : Program} {w w' : World} {base : Nat} {spare : Nat → Bool} {held : Bool}
theorem zh3 (hg:w.grownBy w' none) {p:MemPlace} (hp:p.block<w.heap.size):w.sameAt w' p:=by
 cases p with
 | cell b off=>exact World.cell?_of_block (a:=⟨b,off,none⟩) (hg.block b hp (by simp))
 | map b=>exact hg.block b hp (by simp)
theorem zc6 (hg:w.grownBy w' none):∀{ts:List TypeId} {vs:List Value} {ds:List (DataW H)} {ps:List MemPlace},DataW.TrodAll enc P w base spare held ts vs ds ps→(∀p∈ps,p.block<w.heap.size)→DataW.TrodAll enc P w' base spare held ts vs ds ps
 | [],[],[],_,h,_=>h
 | _ :: _,_ :: _,_ :: _,_,⟨p,q,⟨n,h1⟩,h2,e⟩,hs=>⟨p,q,⟨n,DataW.trod_carry n _ _ _ h1 (fun x hx=>zh3 hg (hs x (by rw[e];exact List.mem_append_left _ hx)))⟩,zc6 hg h2 (fun x hx=>hs x (by rw[e];exact List.mem_append_right _ hx)),e⟩
end
theorem kids:Kids Tryz.prog (·< Tryz.prog.types.size):=kids_rows (by kernel_rfl) (by kernel_rfl)
theorem full:∀t e,t<Tryz.prog.types.size→Tryz.prog.underlying t=some (.slice e)→0<Tryz.prog.cellsOf e:=slices_full_of Tryz.prog (by kernel_rfl)
open Go.RowKit Go.Sf Go.Shelf
section
variable {W w w' : World} {own : Nat → Prop} {st db : Nat} {S : Sto} {all : List (Int × List Int)} {blk : Int → List Nat} {a nv : Value} {k : Nat}
end
end Go.Proofs.YtbcbhlfjgobejaaGreat
