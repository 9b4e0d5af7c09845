/- A vault beside protected blocks: its calls, and openings, for loops. Conditions: none, or as the theorems say. -/
import Derived.Test.YtbcbhlfjgobejaaGreatI38
import Derived.Test.YtbcbhlfjgobejaaGreatI40
import Derived.Test.YtbcbhlfjgobejaaGreatI35
import Derived.Test.YtbcbhlfjgobejaaGreatI24
import Derived.Shelf.SlSortCmp.WholeK
import Derived.Deep.RegionHeld3
import Derived.RangeFuncNested
import Derived.RangeFuncLeaves
import Derived.Shelf.Abstract
import Derived.WalkKit
import Derived.OwnWalkIn
import Derived.TacticsInMore
import Derived.RegionIn
import Derived.LoopNIn
import Derived.LoopIn
import Derived.Maps.OwnIn
import Derived.Maps.AppendAt
import Derived.Shelf.SlLaysF0
import Derived.Ground.SlsfProg
import Derived.Shelf.SlGeneric
import Derived.Test.YtbcbhlfjgobejaaGreatProg
set_option linter.unusedSimpArgs false
set_option linter.unusedVariables false
namespace Go.Proofs.YtbcbhlfjgobejaaGreat
set_option maxHeartbeats 200000000
open Go.RowKit Go.Sf Go.Shelf
theorem zaz:∀(ws:List (Nat × List Int)) (d:Dk),(d.writes ws).1.late.length≤d.late.length+ws.length
 | [],d=>Nat.le_refl _
 | w :: r,d=>by
  have h1:=zaz r (d.written w.1 w.2);have h2:=Xw d w.1 w.2;rw[Dk.writes]
  split
  ·rw[List.length_cons];omega
  ·simp only[List.length_cons];omega
theorem zg1 (d:Dk):d.synced.late.length≤d.late.length:=by
 unfold Dk.synced
 split
 ·exact Nat.le_refl _
 ·split
  ·exact Nat.zero_le _
  ·exact Nat.le_refl _
theorem zf7 (S:Sto) (b:List Int):(S.put b).1.d.late.length≤S.d.late.length+570:=by
 have hws:∀fr,fr=yn S.taken (zt b.length) S.taken.length→¬131072<b.length→(xu ya S.next b fr).length≤570:=fun fr h hb=>by
  have h1:fr.length≤zt b.length:=by rw[h];unfold yn;exact List.length_take_le _ _
  have h2:zt b.length≤570:=by unfold zt;omega
  unfold xu;rw[List.length_map,List.length_range];omega
 unfold Sto.put
 split
 ·show S.d.late.length≤_;omega
 ·split
  ·show S.d.late.length≤_;omega
  ·rename_i h1 h2
   have h3:=hws _ rfl (fun e=>h2 (Or.inl e))
   have h4:=zaz (xu ya S.next b (yn S.taken (zt b.length) S.taken.length)) S.d;have h5:=zg1 (S.d.writes (xu ya S.next b (yn S.taken (zt b.length) S.taken.length))).1
   split
   ·show S.d.late.length≤_;omega
   ·split
    ·rw[(jd _ _ _).2.2.2.1];omega
    ·split
     ·rw[(jd _ _ _).2.2.2.1];omega
     ·show(S.d.writes (xu ya S.next b (yn S.taken (zt b.length) S.taken.length))).1.synced.late.length≤_
      omega
structure VR (W:World) (own:Nat→Prop) (vb db:Nat) (V:Vlt) (w:World):Prop where
 rep:∃st mb km vk,VAt own w vb st db mb km vk V
 old:∀k,k<W.heap.size→own k
 gr:W.grownBy w none
section
variable {W w w' : World} {own own' : Nat → Prop} {st db vb : Nat} {V : Vlt} {d : Dk} {X : VX} {al : List (Int × List Int)} {blk : Int → List Nat} {next : Int}
theorem VR.grown (h:VR W own vb db V w) (hg:w.grownBy w' none):VR W own vb db V w':=by
 obtain⟨st,mb,km,vk,h1⟩:=h.rep
 exact⟨⟨st,mb,km,vk,h1.grown hg⟩,h.old,zo h.gr hg⟩
theorem VR.lt (h:VR W own vb db V w) {k:Nat} (hk:own k):k<w.heap.size:=by
 obtain⟨st,mb,km,vk,h1⟩:=h.rep
 exact h1.olt hk
theorem VR.oth (h:VR W own vb db V w) (ht:zq own w w') (hg:W.grownBy w' none) (h0:∀k,own k→own' k) (h1:∀k,own' k→own k∨w.heap.size≤k) (h2:∀k,own' k→k<w'.heap.size):VR W own' vb db V w':=by
 obtain⟨st,mb,km,vk,h3⟩:=h.rep
 exact⟨⟨st,mb,km,vk,h3.oth ht h1 h2⟩,fun k hk=>h0 k (h.old k hk),hg⟩
theorem VR.more (h:VR W own vb db V w) (hg:w.grownBy w' none):VR W (fun k=>own k∨(w.heap.size≤k∧k<w'.heap.size)) vb db V w':=
 h.oth (ue hg) (zo h.gr hg) (fun k hk=>Or.inl hk) (fun k hk=>hk.imp id And.left) (fun k hk=>hk.elim (fun e=>Nat.lt_of_lt_of_le (h.lt e) hg.size) And.right)
theorem VR.born (h:VR W own vb db V w) (hl:V.S.d.late.length≤5000) (n:Int):Calls Tryz.prog 62 #[.pointer (some ⟨vb,0,none⟩),.int .i64 n] w fun e w'=>e = .returned (.int .i64 (V.born n).2)∧VR W own vb db (V.born n).1 w'∧zq (fun k=>¬own k) w w':=by
 obtain⟨st,mb,km,vk,h1⟩:=h.rep;refine(vborn h1 (n:=n) (by omega) (fun b=>by have:=zf7 V.S b;omega)).mono ?_
 rintro e w' ⟨rfl,⟨km',vk',g1⟩,g2⟩
 exact⟨rfl,⟨⟨st,mb,km',vk',g1⟩,h.old,xj h.gr h.old g2⟩,g2⟩
theorem VR.put (h:VR W own vb db V w) (hl:V.S.d.late.length≤5000) {s:ShM} {pk pr:Option Addr} {ck cr:Nat} (hk:ye own w (.slice pk s.key.length ck) (zi s.key)) (hr:ye own w (.slice pr s.row.length cr) (zi s.row)) (hbl:BL s.key∧BL s.row) (hlen:s.key.length≤1000000∧s.row.length≤1000000) (hv2:s.znm≤9223372036854775807):Calls Tryz.prog 64 #[.pointer (some ⟨vb,0,none⟩),shV pk ck pr cr s] w fun e w'=>e = .returned (.int .i64 (V.putS s).2)∧VR W own vb db (V.putS s).1 w'∧zq (fun k=>¬own k) w w':=by
 obtain⟨st,mb,km,vk,h1⟩:=h.rep;refine(vputs h1 hk hr hbl hlen hv2 (by omega) (fun b=>by have:=zf7 V.S b;omega)).mono ?_
 rintro e w' ⟨rfl,⟨km',vk',g1⟩,g2⟩
 exact⟨rfl,⟨⟨st,mb,km',vk',g1⟩,h.old,xj h.gr h.old g2⟩,g2⟩
theorem VR.drop (h:VR W own vb db V w) (hl:V.S.d.late.length≤5000) (i:VID):Calls Tryz.prog 69 #[.pointer (some ⟨vb,0,none⟩),yu i] w fun e w'=>e = .returned (.int .i64 (V.drop i).2)∧VR W own vb db (V.drop i).1 w'∧zq (fun k=>¬own k) w w':=by
 obtain⟨st,mb,km,vk,h1⟩:=h.rep;refine(vdrop h1 i (by omega)).mono ?_
 rintro e w' ⟨rfl,⟨km',vk',g1⟩,g2⟩
 exact⟨rfl,⟨⟨st,mb,km',vk',g1⟩,h.old,xj h.gr h.old g2⟩,g2⟩
theorem VR.get (h:VR W own vb db V w) (i:VID):Calls Tryz.prog 75 #[.pointer (some ⟨vb,0,none⟩),yu i] w (ze2 w (V.look i).1 (zw V.sh i).isSome):=by
 obtain⟨st,mb,km,vk,h1⟩:=h.rep
 exact vget h1 i
theorem VR.life (h:VR W own vb db V w):Calls Tryz.prog 76 #[.pointer (some ⟨vb,0,none⟩)] w fun e w'=>e = .returned (.int .i64 V.life)∧w'=w:=by
 obtain⟨st,mb,km,vk,h1⟩:=h.rep
 exact vlife h1
theorem VR.dr (h:VR W own vb db V w):DR W own db V.S.d w:=by
 obtain⟨st,mb,km,vk,h1⟩:=h.rep
 exact⟨h1.sr.dsk.less fun k hk=>Or.inl hk,h.old,h.gr⟩
theorem VR.fail (h:VR W own vb db V w) (n:Int) (hn:n<9223372036854775808):Calls Tryz.prog 28 #[.pointer (some ⟨db,0,none⟩),.int .i64 n] w fun e w'=>e = .returned (.tuple #[])∧VR W own vb db { V with S:={ V.S with d:=V.S.d.failed n } } w'∧zq (fun k=>¬own k) w w':=by
 obtain⟨st,mb,km,vk,h1⟩:=h.rep;refine(h1.sr.failed n hn).mono ?_;rintro e w' ⟨rfl,hd,ht⟩;have ht2:zq (fun k=>¬own k) w w':=ht.mono fun k hk e=>hk (Or.inl e)
 exact⟨rfl,⟨⟨st,mb,km,vk,h1.store hd ht⟩,h.old,xj h.gr h.old ht2⟩,ht2⟩
theorem DR.vopen_ (h:DR W own db d w) (hs:yi d) (hl:d.late = []) (hst:∀i,i<d.n→bk d.st i=bk d.now i) (hn4:d.n≤4096) (hn:next≤1000) (g:vf ya (fun i=>scrub ya (bk d.now i)) d.n al blk next) (hv:Zx X al) :
  Calls Tryz.prog 61 #[.pointer (some ⟨db,0,none⟩)] w fun e w'=>∃vb V al' blk,e = .returned (.tuple #[.pointer (some ⟨vb,0,none⟩),.int .i64 0])∧VR W own vb db V w'∧VI V al' blk∧vx al'=X∧yi V.S.d∧V.S.next≤next∧V.S.d.n=d.n∧zq (fun k=>¬own k) w w'∧JSt V.S d.n∧((∀q∈al,Cur al q.1)→al'=al):=by
 have ho:=zcv hs;refine(vopen h.rep hs.1 (by rw[hl];show 0+d.n<1000000;omega) (fun _ ks hk=>(Zp hs.1 hl hst hn4 ho hn g hv hk).1)).mono ?_
 rintro e w' ⟨ht,⟨h1,_⟩|⟨_,st,ks,hk,hp⟩⟩
 ·exact absurd ho h1
 ·obtain⟨r1,⟨V0,o0,r2,r7⟩,r3,r4,r5,r6⟩:=Zp hs.1 hl hst hn4 ho hn g hv hk
  have hs2:yi (openS d ks).d:=by rw[r5];exact zgx hs
  rcases hp with ⟨h1,_⟩|⟨V,o,h1,hp⟩
  ·rw[r2] at h1;cases h1
  ·obtain⟨rfl,rfl⟩:V0=V∧o0=o:=by
    have:=Option.some.inj (r2.symm.trans h1)
    injection this with a b
    exact⟨a,b⟩
   rcases Qc r3 hv r7 with ⟨S',al',e1,g1,g2,g3,g4,g5,g6,g7⟩|⟨S',e1,g1,_⟩
   ·rw[e1] at hp
    rcases hp with ⟨h2,_⟩|⟨_,vb,mb,km,vk,rfl,h3⟩
    ·exact absurd rfl h2
    ·have hj:=g6 _ (zhv r3 hs2)
     rw[r5,r6] at hj
     exact⟨vb,_,al',blk,rfl,⟨⟨st,mb,km,vk,h3⟩,h.old,xj h.gr h.old ht⟩,g1,g2,g5 hs2,by show S'.next≤_;omega,by show S'.d.n=_;rw[g4,r5,r6],ht,hj,fun e=>(g7 e).2⟩
   ·exact absurd hs2 g1
theorem DR.vmid (h:DR W own db d w) (hoff:d.off=false) (hl:d.late = []) (hst:∀i,i<d.n→bk d.st i=bk d.now i) (hn4:d.n≤4096) (hn:next≤1000) (g:vf ya (fun i=>scrub ya (bk d.now i)) d.n al blk next) (hv:Zx X al) :
  Calls Tryz.prog 61 #[.pointer (some ⟨db,0,none⟩)] w fun e w'=>∃x y d',e = .returned (.tuple #[x,y])∧DR W own db d' w'∧DG d' d.n (Zx X) next∧zq (fun k=>¬own k) w w':=by
 refine(vopen h.rep hoff (by rw[hl];show 0+d.n<1000000;omega) (fun ho ks hk=>(Zp hoff hl hst hn4 ho hn g hv hk).1)).mono ?_
 rintro e w' ⟨ht,⟨h1,rfl,h2⟩|⟨ho,st,ks,hk,hp⟩⟩
 ·exact⟨_,_,_,rfl,⟨h2,h.old,xj h.gr h.old ht⟩,(zkc hoff hl hst hn4 h1 g).mono (fun al e=>by rw[e];exact hv) (Int.le_refl _),ht⟩
 ·obtain⟨r1,⟨V0,o0,r2,r7⟩,r3,r4,r5,r6⟩:=Zp hoff hl hst hn4 ho hn g hv hk
  have hnn:(openS d ks).d.n=d.n:=by rw[r5,r6]
  rcases hp with ⟨h1,_⟩|⟨V,o,h1,hp⟩
  ·rw[r2] at h1;cases h1
  ·obtain⟨rfl,rfl⟩:V0=V∧o0=o:=by
    have:=Option.some.inj (r2.symm.trans h1)
    injection this with a b
    exact⟨a,b⟩
   rcases Qc r3 hv r7 with ⟨S',al',e1,g1,g2,g3,g4,g5,g6,g7⟩|⟨S',e1,_,g1,g2⟩
   ·rw[e1] at hp
    rcases hp with ⟨h2,_⟩|⟨_,vb,mb,km,vk,rfl,h3⟩
    ·exact absurd rfl h2
    ·have hd:DG S'.d S'.d.n (fun l=>l=al') S'.next:=g1.inv.to
     rw[g3,g4,hnn] at hd
     exact⟨_,_,S'.d,rfl,⟨h3.sr.dsk.less fun k hk=>Or.inl hk,h.old,xj h.gr h.old ht⟩,hd.mono (fun al e=>by rw[e,←g2];exact g1.x) (by omega),ht⟩
   ·rw[e1] at hp
    rcases hp with ⟨_,rfl,h3⟩|⟨h2,_⟩
    ·rw[hnn] at g2
     exact⟨_,_,_,rfl,⟨h3.dsk,h.old,xj h.gr h.old ht⟩,g2.mono (fun al e=>e) r4,ht⟩
    ·exact absurd h2 (show ¬(180:Int)=0 by decide)
theorem VR.again (h:VR W own vb db V w) (hi:VI V al blk) (hs:yi V.S.d) (hn:V.S.next≤1000) (hn4:V.S.d.n≤4096) :
  Calls Tryz.prog 61 #[.pointer (some ⟨db,0,none⟩)] w fun e w'=>∃vb2 V2,e = .returned (.tuple #[.pointer (some ⟨vb2,0,none⟩),.int .i64 0])∧VR W own vb db V w'∧VR W own vb2 db V2 w'∧VI V2 al blk∧zq (fun k=>¬own k) w w':=by
 obtain⟨st,mb,km,vk,h1⟩:=h.rep;obtain⟨smb,tb,rv,rb,hs1⟩:=h1.sr;have hoc:V.S.d.opened=(V.S.d,0):=zel hi.inv.good.clean;have g:vf ya (fun i=>scrub ya (bk V.S.d.now i)) V.S.d.n al blk V.S.next:=hi.inv.good.same fun i hi2=>qt (hi.inv.good.clean i hi2)
 have hrd:=fun ks hk=>Zp (ks:=ks) hs.1 hi.inv.late hi.inv.st hn4 (by rw[hoc]) hn g hi.x hk
 have hd:vl (zf1 (fun k=>own k∨vk k) st smb tb rb) w db V.S.d:=hs1.disk
 refine(vopen hd hs.1 (by rw[hi.inv.late];show 0+V.S.d.n<1000000;omega) (fun _ ks hk=>(hrd ks hk).1)).mono ?_
 rintro e w' ⟨ht,⟨h2,_⟩|⟨_,st2,ks,hk,hp⟩⟩
 ·rw[hoc] at h2;exact absurd rfl h2
 ·obtain⟨r1,⟨V0,o0,r2,r7⟩,r3,r4,r5,r6⟩:=hrd ks hk
  rw[hoc] at r5
  rcases hp with ⟨h2,_⟩|⟨V',o,h2,hp⟩
  ·rw[r2] at h2;cases h2
  ·obtain⟨rfl,rfl⟩:V0=V'∧o0=o:=by
    have:=Option.some.inj (r2.symm.trans h2)
    injection this with a b
    exact⟨a,b⟩
   rcases Qc r3 hi.x r7 with ⟨S',al',e1,g1,g2,g3,g4,g5,g6,g7⟩|⟨S',e1,g1,_⟩
   ·obtain⟨rfl,rfl⟩:=g7 hi.top
    rw[e1] at hp
    rcases hp with ⟨h3,_⟩|⟨_,vb2,mb2,km2,vk2,rfl,h3⟩
    ·exact absurd rfl h3
    ·have hd2:vl (zf1 (fun k=>own k∨vk k) st smb tb rb) w' db V.S.d:=by
      have h5:vl _ w' db (openS V.S.d ks).d:=h3.sr.dsk;rw[r5] at h5
      exact h5.less fun k hk=>Or.inl hk
     have hs2:=hs1.turned hd2 ht rfl;have ht1:zq (fun k=>¬(own k∨vk k)) w w':=Ul ht
     have ht2:zq (fun k=>¬own k) w w':=ht1.mono fun k hk e=>hk (Or.inl e)
     have hg:=xj h.gr h.old ht2;refine⟨vb2,_,rfl,⟨⟨st,mb,km,vk,?_⟩,h.old,hg⟩,⟨⟨st2,mb2,km2,vk2,h3.less fun k hk=>Or.inl (Or.inl hk)⟩,h.old,hg⟩,g1,ht2⟩
     exact h1.store ⟨smb,tb,rv,rb,hs2⟩ ht1
   ·refine absurd ?_ g1
    rw[r5]
    exact hs
end
open Go.RowKit Go.Sf Go.Shelf Go.Sort Go.Lib
def xo (i:VID):List Value:=[.string i.key,.int .i64 i.znm]
def zhd (base:Nat) (w:World) (v:Value) (l:List VID):Prop:=w.ownsRow base 109 2 v l.length (l.flatMap xo)
theorem infoID:(Tryz.prog.info? 109).map (fun i=>(i.zero,i.size,i.bytes))=some (some (.agg #[.string { data:=#[] },.int .i64 0]),2,24):=by kernel_rfl
def za1 (a b:ByteArray):Int:=if Op.bytesLess a.toList b.toList=true then -1 else if a=b then 0 else 1
def ordI (a b:VID):Int:=if za1 a.key b.key=0 then uf a.znm b.znm else za1 a.key b.key
theorem zlp (a b:ByteArray) (W:World):Calls Tryz.prog 157 #[.string a,.string b] W fun e w'=>e = .returned (.int .i64 (za1 a b))∧w'=W:=by
 cases h1:Op.bytesLess a.toList b.toList with
 | true=>
  have hc:za1 a b = -1:=by unfold za1;rw[if_pos h1]
  rw[hc]
  go_enter Tryz.func157,Tryz.ntmps157
  go_wp2
  go_ret
  exact⟨rfl,rfl⟩
 | false=>
  cases h2:(a.toList == b.toList) with
  | true=>
   have e:a=b:=by rw[Vz] at h2;exact of_decide_eq_true h2
   have hc:za1 a b=0:=by unfold za1;rw[if_neg (by rw[h1];decide),if_pos e]
   rw[hc];clear e
   go_enter Tryz.func157,Tryz.ntmps157
   go_wp2
   go_ret
   exact⟨rfl,rfl⟩
  | false=>
   have e:¬a=b:=by rw[Vz] at h2;exact of_decide_eq_false h2
   have hc:za1 a b=1:=by unfold za1;rw[if_neg (by rw[h1];decide),if_neg e]
   rw[hc];clear e
   go_enter Tryz.func157,Tryz.ntmps157
   go_wp2
   go_ret
   exact⟨rfl,rfl⟩
set_option maxRecDepth 100000 in
theorem zh2 (a b:VID) (W:World):Calls Tryz.prog 156 #[yu a,yu b] W fun e w'=>e = .returned (.int .i64 (ordI a b))∧∃q os',w'=grow (W.drewN q) os':=by
 obtain⟨ak,av⟩:=a;obtain⟨bk,bv⟩:=b;simp only[yu,ordI];have HB:=fun W=>zlp ak bk W
 have HI:=fun W=>zbk av bv W
 have HO:=fun g W=>zmu (za1 ak bk) (uf av bv) g W
 generalize za1 ak bk=x at *;generalize uf av bv=y at *;generalize (if x=0 then y else x)=r at *
 go_enter Tryz.func156,Tryz.ntmps156
 go_wp2;have c0:((W.alloc (.cells #[.string ak,.int .i64 av] 109)).alloc (.cells #[.string bk,.int .i64 bv] 109)).cell? ⟨W.heap.size,0,none⟩=some (.string ak):=by simp[go_sem]
 have c1:((W.alloc (.cells #[.string ak,.int .i64 av] 109)).alloc (.cells #[.string bk,.int .i64 bv] 109)).cell? ⟨W.heap.size,1,none⟩=some (.int .i64 av):=by simp[go_sem]
 have c2:((W.alloc (.cells #[.string ak,.int .i64 av] 109)).alloc (.cells #[.string bk,.int .i64 bv] 109)).cell? ⟨W.heap.size+1,0,none⟩=some (.string bk):=by simp[go_sem]
 have c3:((W.alloc (.cells #[.string ak,.int .i64 av] 109)).alloc (.cells #[.string bk,.int .i64 bv] 109)).cell? ⟨W.heap.size+1,1,none⟩=some (.int .i64 bv):=by simp[go_sem]
 have hg:(W.alloc (.cells #[.string ak,.int .i64 av] 109)).alloc (.cells #[.string bk,.int .i64 bv] 109)=grow (W.drewN 0) #[.cells #[.string ak,.int .i64 av] 109,.cells #[.string bk,.int .i64 bv] 109]:=by rw[alloc_eq_grow,alloc_eq_grow,grow_grow];rfl
 generalize (W.alloc (.cells #[.string ak,.int .i64 av] 109)).alloc (.cells #[.string bk,.int .i64 bv] 109)=W2 at *;have HG:=zd hg;clear hg
 go_region_held3 (fun w'=>w'.cell? ⟨W.heap.size,0,none⟩=some (.string ak)∧w'.cell? ⟨W.heap.size,1,none⟩=some (.int .i64 av)∧w'.cell? ⟨W.heap.size+1,0,none⟩=some (.string bk)∧w'.cell? ⟨W.heap.size+1,1,none⟩=some (.int .i64 bv)) (go_keep)
  (first
  | (go_at_call 157;refine(HB _).mono ?_;rintro e w3 ⟨rfl,rfl⟩)
  | (go_at_call 91;refine(HI _).mono ?_;rintro e w3 ⟨rfl,rfl⟩)
  | (go_at_call 90;refine(HO _ _ (by simp[go_sem]) (by simp[go_sem])).mono ?_;rintro e w3 ⟨rfl,rfl⟩))
 all_goals
  go_wp2
  go_ret
  exact⟨rfl,1,_,by rw[HG.out,alloc_eq_grow,grow_grow];rfl⟩
open Go.RowKit Go.Sf Go.Shelf Go.Maps
attribute [local go_sem] Oper.semAt_some
set_option maxRecDepth 100000 in
theorem znb (F:Fence) (n:Nat) (h10:F.fn 204) (hro:F.round=none) (hn:1≤n) (l Bm b:Nat) (m:List (VID × KpM)) (J Jx:List VID→World→Prop)
  (hY:∀pre x W,J pre W→pre.length<m.length→YieldAt F (n-1) Tryz.prog l #[yu x] W fun e W'=>(e = .returned (.bool true)∧J (pre ++ [x]) W'∧KeepsWalks W W')∨(e = .returned (.bool false)∧Jx (pre ++ [x]) W'))
  (W:World) (hJ:AbidesFrom W.heap.size J) (hm:W.cell? ⟨Bm,0,none⟩=some (.map (some b))) (hown:yg W b yu uw m) (h0:J [] W) :
  CallsIn F n Tryz.prog 204 #[.func (.yield l) #[] #[],.pointer (some ⟨Bm,0,none⟩)] W fun e W'=>(∃v,e = .returned v)∧((∃xs:List VID,xs.Perm (m.map (·.1))∧J xs W')∨(∃pre:List VID,True∧Jx pre W')):=by
 have hnd:=hown.nodup;refine callsIn_of_wp Tryz.func204 rfl h10 ?_ hro;simp only[Tryz.ntmps204,List.size_toArray,List.length_cons,List.length_nil,Nat.reduceAdd,Nat.reduceSub,Array.replicate_succ,Array.replicate_zero,List.push_toArray,List.append_toArray,List.nil_append,List.cons_append]
 gi_wp2_with (gi_at_range;refine Vb _ rfl _ _ rfl Tryz.underlying221 b m rfl hown ?_;intro w0 hit hg0 hs0)
 go_frame
 gi_loopw [3] (fun _ wr=>∃(seen:VID→Bool) (ss:List VID),ur wr W.heap.size b yu uw m seen∧Zb m seen ss∧J ss wr) (fun _ wr=>zjb wr W.heap.size b)
 case atStart=>exact⟨_,[],hit,Zb.start m,hJ [] W w0 none h0 hg0 (fun r e=>by cases e)⟩
 case round=>
  obtain⟨seen,ss,hit,hC,hJs⟩:=hrel
  gi_wp2_with (gi_at_next;refine Vv _ rfl _ rfl zc8 W.heap.size b m seen rfl hit ?_ ?_)
  ·intro hall
   gi_wp2
   go_end0
   exact⟨⟨_,rfl⟩,.inl ⟨ss,hC.perm hnd hall,hJs⟩⟩
  ·rintro⟨kk,kv⟩ v w2 hc
   have hJ2:=hJ ss wr w2 (some W.heap.size) hJs hc.grown (fun r e=>by cases e;exact⟨Nat.le_refl _,hit.walk⟩)
   have hJ3:=hJ ss w2 (w2.alloc (.cells #[.string kk,.int .i64 kv] 109)) none hJ2 (zg _ _ _) (fun r e=>by cases e)
   have hlt:=hC.lt hnd hc.mem hc.new;obtain⟨fn,tmps,assign,body,hy,hR⟩:=hY ss ⟨kk,kv⟩ _ hJ3 hlt;have hen:=hc.entry;simp only[yu] at hy hen ⊢;have hit2:=hc.iter;have hleft:=hit2.left
   gi_wp2
   refine hR.mono ?_;rintro e W3 (⟨rfl,hJ4,hk3⟩|⟨rfl,hJx3⟩)
   ·have hit3:=(ur.kept hit2 (zg w2 (.cells #[.string kk,.int .i64 kv] 109) none) (by simp) (by simp)).walks hk3
    gi_wp2
    go_roundw
    case rel=>exact⟨_,ss ++ [⟨kk,kv⟩],hit3,hC.step hc.mem hc.new,hJ4⟩
    case measure=>
     rw[hit3.left,hit.left]
     exact zbt hc.mem hc.new
   ·gi_wp2
    refine bodyPost_ret (results_none rfl _ _ _) rfl ?_
    exact⟨⟨_,rfl⟩,.inr ⟨_,trivial,hJx3⟩⟩
theorem zcw (F:Fence) (n:Nat) (h10:F.fn 204) (hro:F.round=none) (hn:1≤n) (Bm b:Nat) (m:List (VID × KpM)) (w:World) (hBm:Bm<w.heap.size) (hm:w.cell? ⟨Bm,0,none⟩=some (.map (some b))) (hown:yg w b yu uw m) :
  SeqStopsK F n Tryz.prog 204 #[.pointer (some ⟨Bm,0,none⟩)] (fun x:VID=>#[yu x]) KeepsWalks (fun xs=>xs.Perm (m.map (·.1))) (fun _=>True) m.length w:=fun l J Jx W hW hJ _ hY h0=>
 znb F n h10 hro hn l Bm b m J Jx hY W hJ ((hW.cell (p:=⟨Bm,0,none⟩) hBm).trans hm) (hown.below hown.lt hW) h0
theorem vid_new (w:World) (x:VID) (t:TypeId):∀j u,(xo x)[j]? = some u→(w.alloc (.cells #[.string x.key,.int .i64 x.znm] t)).cell? ((⟨w.heap.size,0,none⟩:Addr).add j)=some u:=by
 intro j u hj
 match j,hj with
 | 0,hj=>simp[xo] at hj;subst hj;simp[Addr.add,go_sem]
 | 1,hj=>simp[xo] at hj;subst hj;simp[Addr.add,go_sem]
 | j+2,hj=>simp[xo] at hj
set_option maxRecDepth 100000 in
theorem zk8 (F:Fence) (n:Nat) (h11:F.fn 239) (hro:F.round=none) (hn:2≤n) (g:Nat) (lb:Array Value) (hFg:F.fn g) (eg:∀args w,(callFunc g args).run Tryz.prog w = .ok (.enter g args) w)
  (S:List VID→Prop) (N:Nat) (hN:N≤1000000) (w:World) (hseq:SeqStopsK F (n-1) Tryz.prog g lb (fun x:VID=>#[yu x]) KeepsWalks S (fun _=>True) N w) :
  CallsIn F n Tryz.prog 239 #[.slice none 0 0,.func (.func g) #[] lb] w fun e w'=>∃(v:Value) (ss:List VID),e = .returned v∧S ss∧w'.ownsRow w.heap.size 109 2 v ss.length (ss.flatMap xo)∧(v = .slice none 0 0↔ss = [])∧Below w.heap.size w w':=by
 have h1:1≤n:=by omega
 obtain⟨i0,hi,hz0,hz1,hz2⟩:=info_parts infoID;refine callsIn_of_wp_marks Tryz.func239 rfl h11 ?_ hro;simp only[Tryz.ntmps239,List.size_toArray,List.length_cons,List.length_nil,Nat.reduceAdd,Nat.reduceSub,Array.replicate_succ,Array.replicate_zero,List.push_toArray,List.append_toArray,List.nil_append,List.cons_append]
 gi_wp2
 have bS:=Boxed.new w 125 (.slice none 0 0);have hB0:Below w.heap.size w (w.alloc (.cells #[.slice none 0 0] 125)):=(Below.refl _ w).alloc (Nat.le_refl _) _;have hsz:(w.alloc (.cells #[.slice none 0 0] 125)).heap.size=w.heap.size+1:=by simp
 generalize w.alloc (.cells #[.slice none 0 0] 125)=W0 at *;refine wpIn_rangeFunc_ownH hro h1 (gf:=g) (lb:=lb) rfl hFg eg hseq walksK_t walksK_b hB0 (fun _=>rfl)
  (fun pre W=>(∃v,Boxed W w.heap.size 125 v∧W.ownsRow w.heap.size 109 2 v pre.length (pre.flatMap xo)∧(v = .slice none 0 0↔pre = []))∧Below w.heap.size w W)
  (fun _ _ _=>False)
  (OwnFrom.and (Own.from (holdsRow_own w.heap.size w.heap.size 125 109 2 (fun pre:List VID=>pre.length) (fun pre=>pre.flatMap xo) (fun pre v=>v = .slice none 0 0↔pre = [])) _) (ownFrom_below (Nat.le_refl _) (by omega)))
  (fun _ _ _ _ _ hs _ _=>hs)
  ⟨⟨_,bS,World.ownsRow_nil _ _ _ _,by simp⟩,hB0⟩
  (fun x a' W=>∃Bx,w.heap.size<Bx∧W.heap[Bx]? = some (.cells #[.string x.key,.int .i64 x.znm] 109 (0,0))∧a' = { tmps:=#[.slice none 0 0,.func (.func g) #[] lb,.pointer (some ⟨w.heap.size,0,none⟩),undef,.slice none 0 0,.pointer (some ⟨Bx,0,none⟩),.func (.func g) #[] lb,yu x,undef,undef,undef,undef,undef],defers:=[] })
  (fun x a' _ X Y row hs hg hr=>by
   obtain⟨Bx,h1,h2,h3⟩:=hs;refine⟨Bx,h1,(hg.block Bx (Array.getElem?_eq_some_iff.1 h2).1 (fun e=>?_)).trans h2,h3⟩
   obtain⟨_,o,ho,hc⟩:=hr Bx e.symm;rw[h2] at ho;cases ho;cases hc)
  ?assign ?body ?done ?stop
 case assign=>
  rintro l pre ⟨xk,xv⟩ W K ⟨⟨v,bS1,hrow,hnil⟩,hB1⟩ hK;simp only[yu]
  gi_wp2
  exact hK _ _ ((KeepsOthers.alloc _ _).from _) (KeepsWalks.alloc _ _) ⟨⟨v,bS1.alloc _,hrow.alloc _,hnil⟩,hB1.alloc hB1.size _⟩ ⟨W.heap.size,bS1.lt,World.alloc_heap_new W _,rfl⟩
 case body=>
  rintro l pre ⟨xk,xv⟩ a' W hl ⟨r,hr⟩ ⟨⟨v,bS1,hrow,hnil⟩,hB1⟩ ⟨Bx,hBx,bX,rfl⟩ hlt;have cS:=bS1.cell;have fS:=bS1.frozen;have c0:W.cell? ⟨Bx,0,none⟩=some (.string xk):=(zh bX 0).trans rfl;have c1:W.cell? ⟨Bx,1,none⟩=some (.int .i64 xv):=(zh bX 1).trans rfl;simp only[yu]
  gi_wp2_with (gi_at_builtin;refine wpListIn_append_own _ rfl _ _ 125 rfl w.heap.size 109 i0 (.agg #[.string { data:=#[] },.int .i64 0]) 2 24 Tryz.underlying125 hi hz0 hz1 hz2 rfl (by decide) _ _ _ rfl (hrow.alloc _) ⟨W.heap.size,0,none⟩ 1 1 (xo ⟨xk,xv⟩) rfl rfl (vid_new W ⟨xk,xv⟩ _) (by simp[xo,Value.oneCell']) (by unfold maxLen;omega) (by omega) (by have:=hB1.size;simp;omega) ?_;intro v' w1 hown' hgrow _;obtain⟨g',cap',rfl⟩:=ownsRow_succ hown';obtain⟨hv1,hv2,hr2,hk2,hb2⟩:=bS1.appended (by decide) hrow hB1.size (Nat.le_refl _) hown' hgrow;have hc1:=hv1.cell;have hf1:=hv1.frozen)
  exact⟨hk2.from _,hk2.walks,⟨_,hv2,by simpa[List.flatMap_append] using hr2,by simp⟩,hB1.trans hb2⟩
 case done=>
  rintro D zs W hD hS ⟨⟨v,bS1,hrow,hnil⟩,hB1⟩ hK;have cS:=bS1.cell
  gi_wp2
  refine⟨by simp,.inl ⟨_,_,rfl,run_takeDeferred hK,?_⟩⟩
  exact⟨_,results_tmp rfl _ _ _,v,zs,rfl,hS,ownsRow_putObj hrow _ hK rfl,hnil,hB1.trans (belowK_b (w:=w) (Nat.le_refl _) W D _ _ (by omega) hK rfl rfl)⟩
 case stop=>
  rintro D c pre W _ _ h _
  exact h.elim
theorem ziq (F:Fence) (n:Nat) (h8:F.fn 202) (h11:F.fn 239) (hro:F.round=none) (hn:3≤n) (g:Nat) (lb:Array Value) (hFg:F.fn g) (eg:∀args w,(callFunc g args).run Tryz.prog w = .ok (.enter g args) w)
  (S:List VID→Prop) (N:Nat) (hN:N≤1000000) (w:World) (hseq:SeqStopsK F (n-1-1) Tryz.prog g lb (fun x:VID=>#[yu x]) KeepsWalks S (fun _=>True) N w) :
  CallsIn F n Tryz.prog 202 #[.func (.func g) #[] lb] w fun e w'=>∃(v:Value) (ss:List VID),e = .returned v∧S ss∧w'.ownsRow w.heap.size 109 2 v ss.length (ss.flatMap xo)∧(v = .slice none 0 0↔ss = [])∧Below w.heap.size w w':=by
 have h1:1≤n:=by omega
 refine callsIn_of_wp Tryz.func202 rfl h8 ?_ hro;simp only[Tryz.ntmps202,List.size_toArray,List.length_cons,List.length_nil,Nat.reduceAdd,Nat.reduceSub,Array.replicate_succ,Array.replicate_zero,List.push_toArray,List.append_toArray,List.nil_append,List.cons_append]
 gi_wp2_with (gi_at_call 239;refine(zk8 F (n-1) h11 hro (by omega) g lb hFg eg S N hN _ hseq).mono ?_;rintro e w' ⟨v,ss,rfl,hS,hrow,hnil,hb⟩)
 go_ret
 exact⟨v,ss,rfl,hS,hrow,hnil,hb⟩
theorem zj3 (mb:Option Nat) (W:World):Calls Tryz.prog 155 #[.map mb] W fun e w'=>
  e = .returned (.func (.func 204) #[] #[.pointer (some ⟨W.heap.size,0,none⟩)])∧w'=W.alloc (.cells #[.map mb] 221):=by
 have hmf:∀(fn:Fn) (first cap:Array Value) (w:World),(Instr.makeFunc fn first cap).run Tryz.prog w = .ok (.func fn first cap) w:=fun _ _ _ _=>rfl
 go_enter Tryz.func155,Tryz.ntmps155
 go_wp2
 go_ret
 exact⟨rfl,rfl⟩
end Go.Proofs.YtbcbhlfjgobejaaGreat
namespace Go.Proofs
open Go.Shelf
def Tryz.sortV_ren:Go.Shelf.Ren:=⟨fun|6=>203|15=>191|14=>240|28=>234|29=>235|20=>264|21=>265|22=>266|23=>267|24=>268|25=>269|26=>270|27=>271|46=>278|47=>259|48=>260|49=>279|50=>280|57=>282|n=>n,fun|22=>125|24=>109|25=>257|3=>3|39=>285|0=>0|53=>172|55=>51|4=>4|46=>319|45=>318|50=>324|5=>5|9=>9|66=>342|70=>345|76=>357|77=>358|n=>n,fun|n=>n⟩
theorem Tryz.sortV:Go.Proofs.SlLaysF0.n6 Tryz.prog Tryz.sortV_ren:={
 mixed:=by kernel_rfl
 f6:=⟨Tryz.f203.name,by decide,Tryz.func203.trans (congrArg some (by kernel_rfl))⟩
 f14:=⟨Tryz.f240.name,by decide,Tryz.func240.trans (congrArg some (by kernel_rfl))⟩
 f15:=Tryz.func191.trans (congrArg some (by kernel_rfl))
 f20:=⟨Tryz.f264.name,by decide,Tryz.func264.trans (congrArg some (by kernel_rfl))⟩
 f21:=⟨Tryz.f265.name,by decide,Tryz.func265.trans (congrArg some (by kernel_rfl))⟩
 f22:=⟨Tryz.f266.name,by decide,Tryz.func266.trans (congrArg some (by kernel_rfl))⟩
 f23:=⟨Tryz.f267.name,by decide,Tryz.func267.trans (congrArg some (by kernel_rfl))⟩
 f24:=⟨Tryz.f268.name,by decide,Tryz.func268.trans (congrArg some (by kernel_rfl))⟩
 f25:=⟨Tryz.f269.name,by decide,Tryz.func269.trans (congrArg some (by kernel_rfl))⟩
 f26:=⟨Tryz.f270.name,by decide,Tryz.func270.trans (congrArg some (by kernel_rfl))⟩
 f27:=⟨Tryz.f271.name,by decide,Tryz.func271.trans (congrArg some (by kernel_rfl))⟩
 f28:=Tryz.func234.trans (congrArg some (by kernel_rfl))
 f29:=Tryz.func235.trans (congrArg some (by kernel_rfl))
 f46:=⟨Tryz.f278.name,by decide,Tryz.func278.trans (congrArg some (by kernel_rfl))⟩
 f47:=Tryz.func259.trans (congrArg some (by kernel_rfl))
 f48:=Tryz.func260.trans (congrArg some (by kernel_rfl))
 f49:=⟨Tryz.f279.name,by decide,Tryz.func279.trans (congrArg some (by kernel_rfl))⟩
 f50:=⟨Tryz.f280.name,by decide,Tryz.func280.trans (congrArg some (by kernel_rfl))⟩
 f57:=⟨Tryz.f282.name,by decide,Tryz.func282.trans (congrArg some (by kernel_rfl))⟩
 t0:=Tryz.underlying0
 a0:=Tryz.isAgg0
 z0:=Tryz.sizeOf0
 v0:=Tryz.zeroValue0
 t3:=Tryz.underlying3
 a3:=Tryz.isAgg3
 z3:=Tryz.sizeOf3
 v3:=Tryz.zeroValue3
 t4:=Tryz.underlying4
 a4:=Tryz.isAgg4
 z4:=Tryz.sizeOf4
 v4:=Tryz.zeroValue4
 t5:=Tryz.underlying5
 a5:=Tryz.isAgg5
 z5:=Tryz.sizeOf5
 v5:=Tryz.zeroValue5
 t9:=Tryz.underlying9
 a9:=Tryz.isAgg9
 z9:=Tryz.sizeOf9
 v9:=Tryz.zeroValue9
 t22:=Tryz.underlying125
 a22:=Tryz.isAgg125
 z22:=Tryz.sizeOf125
 v22:=Tryz.zeroValue125
 t25:=Tryz.underlying257
 a25:=Tryz.isAgg257
 z25:=Tryz.sizeOf257
 v25:=Tryz.zeroValue257
 t39:=Tryz.underlying285
 a39:=Tryz.isAgg285
 z39:=Tryz.sizeOf285
 v39:=Tryz.zeroValue285
 t45:=Tryz.underlying318
 a45:=Tryz.isAgg318
 z45:=Tryz.sizeOf318
 v45:=Tryz.zeroValue318
 t46:=Tryz.underlying319
 a46:=Tryz.isAgg319
 z46:=Tryz.sizeOf319
 v46:=Tryz.zeroValue319
 t50:=Tryz.underlying324
 a50:=Tryz.isAgg324
 z50:=Tryz.sizeOf324
 v50:=Tryz.zeroValue324
 t53:=Tryz.underlying172
 a53:=Tryz.isAgg172
 z53:=Tryz.sizeOf172
 v53:=Tryz.zeroValue172
 t55:=Tryz.underlying51
 a55:=Tryz.isAgg51
 z55:=Tryz.sizeOf51
 v55:=Tryz.zeroValue51
 t66:=Tryz.underlying342
 a66:=Tryz.isAgg342
 z66:=Tryz.sizeOf342
 v66:=Tryz.zeroValue342
 t70:=Tryz.underlying345
 a70:=Tryz.isAgg345
 z70:=Tryz.sizeOf345
 v70:=Tryz.zeroValue345
 t76:=Tryz.underlying357
 a76:=Tryz.isAgg357
 z76:=Tryz.sizeOf357
 v76:=Tryz.zeroValue357
 t77:=Tryz.underlying358
 a77:=Tryz.isAgg358
 z77:=Tryz.sizeOf358
 v77:=Tryz.zeroValue358 }
end Go.Proofs
