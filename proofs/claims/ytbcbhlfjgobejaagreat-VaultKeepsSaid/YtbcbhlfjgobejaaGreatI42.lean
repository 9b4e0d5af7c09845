/- The ids of a vault's shares, in order: the walk. Conditions: none, or as the theorems say. -/
import Derived.Test.YtbcbhlfjgobejaaGreatI41
import Derived.Sort.OwnSorted
import Derived.Sort.Walk0
import Derived.Shelf.SlSortCmp.NoneTotal
set_option linter.unusedSimpArgs false
set_option linter.unusedVariables false
namespace Go.Proofs.YtbcbhlfjgobejaaGreat
set_option maxHeartbeats 200000000
open Go.RowKit Go.Sf Go.Shelf Go.Maps Go.Sort Go.Lib
instance:Inhabited VID:=⟨⟨⟨#[]⟩,0⟩⟩
def ltI (a b:VID):Bool:=decide (ordI a b<0)
theorem Vu (a b:VID):ltI a b=true↔a.key.data.toList<b.key.data.toList∨(a.key=b.key∧a.znm<b.znm):=by
 unfold ltI ordI za1 uf;have e:Op.bytesLess a.key.toList b.key.toList=decide (a.key.data.toList<b.key.data.toList):=by
  rw[bytesLess_eq];rw[Lib.toList_data,Lib.toList_data]
 rw[e]
 by_cases h1:a.key.data.toList<b.key.data.toList
 ·simp[h1]
 ·by_cases h2:a.key=b.key
  ·simp[h2]
   by_cases h3:a.znm<b.znm
   ·simp[h3]
   ·by_cases h4:b.znm<a.znm <;> simp[h3,h4]
  ·simp[h1,h2]
theorem znd (a b:ByteArray) (h:a.data.toList=b.data.toList):a=b:=by
 cases a;cases b;simp at h;subst h;rfl
theorem zcl (a b:ByteArray):a.data.toList<b.data.toList∨a=b∨b.data.toList<a.data.toList:=by
 rcases Std.lt_trichotomy a.data.toList b.data.toList with h|h|h
 ·exact Or.inl h
 ·exact Or.inr (Or.inl (znd _ _ h))
 ·exact Or.inr (Or.inr h)
theorem vswoI:SWO (ltOf ordI) where
 irrefl x:=by
  have n:¬ltI x x=true:=by
   rw[Vu];rintro(h|⟨_,h⟩)
   ·exact absurd h Std.lt_irrefl
   ·omega
  simpa[ltOf,ltI] using n
 trans x y z h1 h2:=by
  have h1:=(Vu x y).1 h1;have h2:=(Vu y z).1 h2;refine(Vu x z).2 ?_
  rcases h1 with h1|⟨e1,h1⟩ <;> rcases h2 with h2|⟨e2,h2⟩
  ·exact Or.inl (Std.lt_trans h1 h2)
  ·rw[←e2];exact Or.inl h1
  ·rw[e1];exact Or.inl h2
  ·exact Or.inr ⟨e1.trans e2,by omega⟩
 ntrans x y z h1 h2:=by
  have n1:¬ltI x y=true:=by unfold ltI;unfold ltOf at h1;rw[h1];decide
  have n2:¬ltI y z=true:=by unfold ltI;unfold ltOf at h2;rw[h2];decide
  have n3:¬ltI x z=true:=by
   rw[Vu] at n1 n2 ⊢;intro h
   rcases zcl x.key y.key with a|a|a
   ·exact n1 (Or.inl a)
   ·rcases zcl y.key z.key with b|b|b
    ·exact n2 (Or.inl b)
    ·rcases h with h|⟨e,h⟩
     ·rw[a,b] at h;exact absurd h Std.lt_irrefl
     ·by_cases c:x.znm<y.znm
      ·exact n1 (Or.inr ⟨a,c⟩)
      ·exact n2 (Or.inr ⟨b,by omega⟩)
    ·rcases h with h|⟨e,h⟩
     ·rw[a] at h;exact absurd (Std.lt_trans h b) Std.lt_irrefl
     ·rw[←e,a] at b;exact absurd b Std.lt_irrefl
   ·rcases zcl y.key z.key with b|b|b
    ·exact n2 (Or.inl b)
    ·rcases h with h|⟨e,h⟩
     ·rw[b] at a;exact absurd (Std.lt_trans h a) Std.lt_irrefl
     ·rw[b,e] at a;exact absurd a Std.lt_irrefl
    ·have c:=Std.lt_trans b a
     rcases h with h|⟨e,h⟩
     ·exact absurd (Std.lt_trans h c) Std.lt_irrefl
     ·rw[e] at c;exact absurd c Std.lt_irrefl
  simpa[ltOf,ltI] using n3
theorem zd1:∀(l:List VID) (t:Nat),t<l.length*2→(l.flatMap xo)[t]? = some ((xo (l[t / 2]!))[t%2]!)
 | [],t,h=>by simp at h
 | x :: r,0,h=>rfl
 | x :: r,1,h=>rfl
 | x :: r,t+2,h=>by
  have ih:=zd1 r t (by simp at h;omega)
  have e1:(t+2) / 2=t / 2+1:=by omega
  have e2:(t+2)%2=t%2:=by omega
  rw[e1,e2];have:(x :: r).flatMap xo=Value.string x.key :: Value.int .i64 x.znm :: r.flatMap xo:=rfl;rw[this];simpa using ih
theorem Um (l:List VID):(l.flatMap xo).length=l.length*2:=by
 induction l with
 | nil=>rfl
 | cons x r ih=>simp[xo,ih];omega
theorem zcj (l:List VID):flatK xo 2 l.toArray=(l.flatMap xo).toArray:=by
 apply Array.ext
 ·rw[size_flatK,List.size_toArray,List.size_toArray,Um]
 ·intro t h1 h2
  have h3:t<l.length*2:=by simpa using h1
  have h4:=get_flatK xo 2 l.toArray t (by simpa using h3)
  rw[getElem!_pos _ t h1] at h4;rw[h4];have h5:=zd1 l t h3;simp only[List.getElem_toArray];have h6:t<(l.flatMap xo).length:=by rw[Um];exact h3
  rw[List.getElem?_eq_getElem h6] at h5;have h7:=Option.some.inj h5;rw[h7];simp
def zbf (l:List VID):Prop:=∀i j,i<j→j<l.length→ltI l[j]! l[i]! = false
theorem zk2 (blk cap:Nat) (l:List VID) (w:World) (cur:Array Value) (hb:w.heap[blk]? = some (.cells cur 109 (0,0))) (ht:cur.toList.take (l.length*2)=l.flatMap xo) (hsz:l.length≤1000000) :
  Calls Tryz.prog 203 #[.slice (some ⟨blk,0,none⟩) l.length cap,.func (.func 156) #[] #[]] w fun e w'=>
   e = .returned (.tuple #[])∧∃(l':List VID) (n:Nat) (os:Array Obj),l'.Perm l∧zbf l'∧w'=grow (putRow id (Sort.ahead w n) blk 0 (l'.flatMap xo).toArray) os:=by
 have eg:∀args w,(callFunc 156 args).run Tryz.prog w = .ok (.enter 156 args) w:=enters_of Tryz.func156 (by kernel_rfl) rfl
 have hH:HoldsK xo 2 w blk 0 l.toArray:=by
  unfold HoldsK;rw[zcj]
  exact zhu hb (by rw[Um];exact ht)
 have hblk:blk<w.heap.size:=(Array.getElem?_eq_some_iff.1 hb).1;have hcon:=AnyQ.slices_SortFunc Tryz.sortV 2 Tryz.isAgg109 Tryz.sizeOf109 xo (fun _=>rfl) (fun x v hv=>by simp[xo] at hv;rcases hv with rfl|rfl <;> rfl) ordI vswoI 156 #[] blk 0 cap l.toArray w eg
  (fun m os dk _ x y=>zh2 x y _) hH hblk (by simp;omega)
 refine hcon.mono ?_;rintro e w' ⟨he,d',n,os,hp,hs,hw⟩;obtain⟨p1,p2,p3⟩:=hp;have hl:d'.toList.length=l.length:=by simpa using p1
 refine⟨he,d'.toList,n,os,?_,?_,?_⟩
 ·have q1:(d'.extract 0 l.toArray.size)=d':=by rw[←p1];simp
  have q2:(l.toArray.extract 0 l.toArray.size)=l.toArray:=by simp
  rw[q1,q2] at p3;simpa using p3
 ·intro i j hij hj
  have:=hs i j (Nat.zero_le _) hij (by simpa[hl] using hj)
  show ltI d'.toList[j]! d'.toList[i]! = false
  rw[Array.getElem!_toList,Array.getElem!_toList]
  exact this
 ·rw[hw]
  unfold sortWorldK putRowK;have:=zcj d'.toList;simp only[Array.toArray_toList] at this;rw[this]
theorem zik (p:Option Addr) (cap:Nat) (fv:Value) (W:World):Calls Tryz.prog 203 #[.slice p 0 cap,fv] W fun e w'=>e = .returned (.tuple #[])∧w'=W:=
 AnyF.slices_SortFunc_none Tryz.sortV p cap fv W
def VOrdRow (base:Nat) (w':World) (v:Value) (m:List (VID × KpM)) (l:List VID):Prop:=zhd base w' v l∧l.Perm (m.map (·.1))∧zbf l∧(v = .slice none 0 0↔l = [])
theorem zck (Bm b:Nat) (m:List (VID × KpM)) (w:World) (hBm:Bm<w.heap.size) (hm:w.cell? ⟨Bm,0,none⟩=some (.map (some b))) (hown:yg w b yu uw m) (hl:m.length≤1000000) :
  Calls Tryz.prog 202 #[.func (.func 204) #[] #[.pointer (some ⟨Bm,0,none⟩)]] w fun e w'=>∃(v:Value) (ss:List VID),e = .returned v∧ss.Perm (m.map (·.1))∧w'.ownsRow w.heap.size 109 2 v ss.length (ss.flatMap xo)∧(v = .slice none 0 0↔ss = [])∧w.grownBy w' none:=by
 have h:=ziq Fence.wide 5 trivial trivial rfl (by omega) 204 #[.pointer (some ⟨Bm,0,none⟩)] trivial (enters_of Tryz.func204 (by kernel_rfl) rfl)
  (fun xs=>xs.Perm (m.map (·.1))) m.length hl w (zcw Fence.wide _ trivial rfl (by omega) Bm b m w hBm hm hown)
 exact(callsIn_wide.1 h).mono fun e w' ⟨v,ss,h1,h2,h3,h4,h5⟩=>⟨v,ss,h1,h2,h3,h4,Vf h5⟩
set_option maxRecDepth 100000 in
theorem zgt (Bm b:Nat) (m:List (VID × KpM)) (w:World) (hBm:Bm<w.heap.size) (hm:w.cell? ⟨Bm,0,none⟩=some (.map (some b))) (hown:yg w b yu uw m) (hl:m.length≤1000000) :
  Calls Tryz.prog 154 #[.func (.func 204) #[] #[.pointer (some ⟨Bm,0,none⟩)],.func (.func 156) #[] #[]] w
   fun e w'=>∃v l,e = .returned v∧VOrdRow w.heap.size w' v m l∧w.grownBy w' none:=by
 have HC:=zd (zck Bm b m w hBm hm hown hl);have hnd:=hown.nodup;clear hm hown
 go_enter Tryz.func154,Tryz.ntmps154
 go_wp2_with (go_at_call 202;refine HC.out.mono ?_;rintro e w1 ⟨v,ss,rfl,hp,hrow,hnil,hg⟩;have HP:=zd (And.intro hp (And.intro hrow (And.intro hnil hg)));clear hp hrow hnil hg)
 obtain⟨hp,hrow,hnil,hg⟩:=HP.out;have hlen:ss.length≤1000000:=by rw[hp.length_eq];simpa using hl
 rcases hrow.2 with ⟨rfl,hz⟩|⟨g,cap,cur,rfl,hbase,hgb,r1,r2,r3,r4⟩
 ·have hss:ss = []:=List.eq_nil_of_length_eq_zero hz
  subst hss
  go_wp2_with (go_at_call 203;refine(zik none 0 _ _).mono ?_;rintro e w2 ⟨rfl,rfl⟩)
  go_ret
  exact⟨_,[],rfl,⟨hrow,hp,fun i j h1 h2=>by simp at h2,by simp⟩,hg⟩
 ·have HS:=zd (zk2 g cap ss w1 cur hgb r4 hlen)
  have HH:=zd (And.intro hbase (And.intro hgb (And.intro r1 (And.intro r2 (And.intro r3 (And.intro hnil (And.intro hg hp)))))));clear hbase hgb r1 r2 r3 r4 hnil hg hp hrow HP
  go_wp2_with (go_at_call 203;refine HS.out.mono ?_;rintro e w2 ⟨rfl,l',n,os,hp2,ho2,rfl⟩;have HZ:=zd (And.intro hp2 ho2);clear hp2 ho2)
  go_ret
  obtain⟨hbase,hgb,r1,r2,r3,hnil,hg,hp⟩:=HH.out;obtain⟨hp2,ho2⟩:=HZ.out;refine⟨_,l',rfl,⟨?_,hp2.trans hp,ho2,?_⟩,Ub hg (Zr _) (fun k hk=>by cases hk;exact hbase)⟩
  ·unfold zhd
   rw[hp2.length_eq]
   exact Zt (by rw[Um,hp2.length_eq]) hbase hgb r1 r2 r3
  ·constructor
   ·intro h;cases h
   ·intro h;subst h
    have:ss = []:=hp2.symm.eq_nil;have:=hnil.2 this
    cases this
section
variable {own : Nat → Prop} {W : World} {vb st db mb : Nat} {km : List (VID × KpM)} {vk : Nat → Prop} {V : Vlt}
set_option maxRecDepth 100000 in
theorem vids (h:VAt own W vb st db mb km vk V) (hl:V.sh.length≤1000000) :
  Calls Tryz.prog 78 #[.pointer (some ⟨vb,0,none⟩)] W fun e w'=>∃v l,e = .returned v∧zhd W.heap.size w' v l∧l.Perm (V.sh.map (·.1))∧zbf l∧W.grownBy w' none:=by
 obtain⟨c0,c1,c2,c3,c4,y⟩:=h.cells;have hk:km.map (·.1)=V.sh.map (·.1):=by rw[h.she,List.map_map];rfl
 have HK:=zd hk;have HL:Hid (km.length≤1000000):=zd (by rw[h.she,List.length_map] at hl;exact hl)
 have HM:=zd h.mp;clear h hl hk c0 c1 c2 c4 y
 go_enter Tryz.func78,Tryz.ntmps78
 go_wp2_with (first
   | (go_at_call 155;refine(zj3 (some mb) _).mono ?_;rintro e w1 ⟨rfl,rfl⟩)
   | (go_at_call 154;have hq:=zgt W.heap.size mb km (W.alloc (.cells #[.map (some mb)] 221)) (by simp[go_sem]) (by simp[go_sem]) (HM.out.kept (zg _ _ none) (by simp)) HL.out;refine hq.mono ?_;rintro e w2 ⟨v,l,rfl,hv,hg⟩;have HV:=zd (And.intro hv hg);clear hv hg))
 go_ret
 obtain⟨⟨h1,h2,h3,h4⟩,hg⟩:=HV.out
 exact⟨v,l,rfl,⟨h1.1,h1.2.imp id (fun ⟨g,cap,cur,a1,a2,a3⟩=>⟨g,cap,cur,a1,Nat.le_trans (by simp) a2,a3⟩)⟩,HK.out ▸ h2,h3,zo (zg _ _ _) hg⟩
theorem znc (h:VAt own W vb st db mb km vk V) (hl:V.sh.length≤1000000) :
  Calls Tryz.prog 78 #[.pointer (some ⟨vb,0,none⟩)] W fun e w'=>∃p c,e = .returned (.slice p V.sh.length c)∧W.grownBy w' none:=by
 refine(vids h hl).mono ?_;rintro e w' ⟨v,l,rfl,h1,h2,h3,hg⟩;have hn:l.length=V.sh.length:=by rw[h2.length_eq,List.length_map]
 rcases h1.2 with ⟨rfl,h0⟩|⟨g,cap,cur,rfl,-⟩
 ·exact⟨none,0,by rw[←hn,h0],hg⟩
 ·exact⟨_,cap,by rw[hn],hg⟩
end
end Go.Proofs.YtbcbhlfjgobejaaGreat
