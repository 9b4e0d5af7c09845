/- fields.Reader in memory: Open, cut, Left, Bad, Raw: the walks. Conditions: none, or as the theorems say. -/
import Derived.Test.YtbcbhlfjgobejaaGreatS3
import Derived.Deep.DeepCutAuto
import Derived.Deep.RegionLaw
import Derived.Laws.Slices
import Derived.Laws.BitsLemmas
import Derived.Laws.BitsAllLaws
import Derived.Test.YtbcbhlfjgobejaaGreatS5
import Derived.Test.YtbcbhlfjgobejaaGreatS1
import Derived.Laws.Externs
import Derived.Deep.RegionHeld3
set_option linter.unusedSimpArgs false
set_option linter.unusedVariables false
namespace Go.Proofs.YtbcbhlfjgobejaaGreat
set_option maxHeartbeats 200000000
open Go.RowKit Go.Sf
variable {l:List Int} {B b n:Nat} {own':Nat→Prop} {v:Value} {W w:World}
structure Un (B:Nat) (W:World) (v:Value) (l:List Int):Prop where
 ex:∃p cap,v = .slice p l.length cap∧l.length≤cap∧cap≤9223372036854775807∧(l = []∨∃a,p=some a∧a.block<B∧∀j u,(zg l)[j]? = some u→W.cell? (a.add j)=some u)
theorem Un.raw (h:Un B W v l):zx W v l:=by
 obtain⟨p,cap,rfl,h1,h2,h3⟩:=h.ex;refine⟨p,cap,rfl,?_⟩
 rcases h3 with h3|⟨a,rfl,_,h4⟩
 ·exact Or.inl h3
 ·exact Or.inr ⟨a,rfl,h4⟩
theorem Un.turn {W':World} (h:Un B W v l) (hs:∀k,k<B→W'.heap[k]? = W.heap[k]?):Un B W' v l:=by
 obtain⟨p,cap,rfl,h1,h2,h3⟩:=h.ex;refine⟨p,cap,rfl,h1,h2,?_⟩
 rcases h3 with h3|⟨a,rfl,hb,h4⟩
 ·exact Or.inl h3
 ·refine Or.inr ⟨a,rfl,hb,λj u hu=>?_⟩
  have hbl:(a.add j).block=a.block:=by unfold Addr.add;split <;> rfl
  exact(World.cell?_of_block (hs _ (by rw[hbl];exact hb))).trans (h4 j u hu)
theorem zm.refl (bs:Nat→Prop) (w:World):zm bs w w:=⟨rfl,rfl,rfl,Nat.le_refl _,λ_ _ _=>rfl⟩
theorem zm.trans {bs:Nat→Prop} {a b c:World} (h:zm bs a b) (g:zm bs b c):zm bs a c:=
 ⟨g.os.trans h.os,g.tape.trans h.tape,g.output.trans h.output,Nat.le_trans h.size g.size,λk hk hn=>(g.block k (Nat.lt_of_lt_of_le hk h.size) hn).trans (h.block k hk hn)⟩
theorem yh (w:World) (b i:Nat) (v:Value):zm (λk=>k=b) w (w.setCell ⟨b,i,none⟩ v):=by
 have hs:=zv w b i v
 exact⟨hs.os,hs.tape,hs.output,hs.size,λk hk hn=>hs.block k hk (λe=>hn (by cases e;rfl))⟩
structure Rdr (B:Nat) (w:World) (rb:Nat) (all:List Int) (at_:Nat) (bad:Bool):Prop where
 le:B≤rb
 len:all.length≤1000000
 pos:at_≤all.length
 ex:∃v,w.heap[rb]? = some (.cells #[v,.int .i64 at_,.bool bad] 306 (0,0))∧Un B w v all
section
variable {B : Nat} {w w' : World} {rb at_ : Nat} {all : List Int} {bad : Bool}
theorem Rdr.lt (h:Rdr B w rb all at_ bad):rb<w.heap.size:=by
 obtain⟨v,hb,_⟩:=h.ex
 exact(Array.getElem?_eq_some_iff.1 hb).1
theorem Rdr.kept (h:Rdr B w rb all at_ bad) (hg:w.grownBy w' none):Rdr B w' rb all at_ bad:=by
 obtain⟨v,hb,hv⟩:=h.ex;have hl:=h.lt
 exact⟨h.le,h.len,h.pos,v,(hg.block rb hl (by simp)).trans hb,hv.turn λk hk=>hg.block k (by have:=h.le;omega) (by simp)⟩
set_option maxRecDepth 100000 in
theorem zlc (h:Rdr B w rb all at_ bad):Calls Tryz.prog 223 #[.pointer (some ⟨rb,0,none⟩)] w λe w'=>e = .returned (.bool bad)∧w'=w:=by
 obtain⟨v,hb,_⟩:=h.ex;have c2:w.cell? ⟨rb,2,none⟩=some (.bool bad):=by simp[World.cell?,hb]
 clear h hb
 go_enter Tryz.func223,Tryz.ntmps223
 go_wp2
 go_ret
 exact⟨rfl,rfl⟩
set_option maxRecDepth 100000 in
theorem zo6 (h:Rdr B w rb all at_ bad):Calls Tryz.prog 224 #[.pointer (some ⟨rb,0,none⟩)] w λe w'=>e = .returned (.int .i64 (if bad then 0 else ((all.length-at_:Nat):Int)))∧w.grownBy w' none:=by
 have HB:=zd (zlc h);obtain⟨v,hb,hv⟩:=h.ex;have hp:=h.pos;have hl:=h.len;obtain⟨p,cap,rfl,-⟩:=hv.ex;have c0:w.cell? ⟨rb,0,none⟩=some (.slice p all.length cap):=by simp[World.cell?,hb]
 have c1:w.cell? ⟨rb,1,none⟩=some (.int .i64 at_):=by simp[World.cell?,hb]
 clear h hb hv;generalize all.length=n at *
 cases bad
 ·go_enter Tryz.func224,Tryz.ntmps224
  go_wp2_with (go_at_call 223;refine HB.out.mono ?_;rintro e w1 ⟨rfl,h5⟩;obtain rfl:w=w1:=h5.symm)
  go_region
  go_wp2
  go_ret
  refine⟨?_,⟨rfl,rfl,rfl,Nat.le_refl _,λ_ _ _=>rfl⟩⟩
  simp;omega
 ·go_enter Tryz.func224,Tryz.ntmps224
  go_wp2_with (go_at_call 223;refine HB.out.mono ?_;rintro e w1 ⟨rfl,h5⟩;obtain rfl:w=w1:=h5.symm)
  go_ret
  exact⟨rfl,zi _⟩
set_option maxRecDepth 100000 in
theorem zor (h:Rdr B w rb all at_ bad):Calls Tryz.prog 248 #[.pointer (some ⟨rb,0,none⟩)] w λe w'=>e = .returned (.tuple #[])∧Rdr B w' rb all at_ true∧zm (λk=>k=rb) w w':=by
 obtain⟨v,hb,hv⟩:=h.ex;have c2:w.cell? ⟨rb,2,none⟩=some (.bool bad):=by simp[World.cell?,hb]
 have y2:w.frozen? ⟨rb,2,none⟩=false:=by simp[World.frozen?,hb]
 have HE:Hid (Rdr B (w.setCell ⟨rb,2,none⟩ (.bool true)) rb all at_ true∧zm (λk=>k=rb) w (w.setCell ⟨rb,2,none⟩ (.bool true))):=(show _∧_ from
  ⟨⟨h.le,h.len,h.pos,v,by simp[World.setCell,Array.getElem?_modify,hb],hv.turn λk hk=>Below.heap_setCell _ _ _ k (by have:=h.le;show k≠rb;omega)⟩,yh _ _ _ _⟩)
 clear h hb hv
 go_enter Tryz.func248,Tryz.ntmps248
 go_wp2
 first|go_end0|refine bodyPost_ret (results_none rfl _ _ _) rfl ?_
 exact⟨rfl,HE.out⟩
theorem Un.mid {p:Option Addr} {cap:Nat} (h:Un B w (.slice p l.length cap) l) {a:Nat} (hn:a+n≤l.length) {q:Option Addr} (hq:n≠0→q=p.map (λx=>x.add a)):Un B w (.slice q n n) ((l.drop a).take n):=by
 obtain⟨p',cap',e,h1,h2,h3⟩:=h.ex
 injection e with e1 _ e2
 subst e1 e2;have hl:((l.drop a).take n).length=n:=by rw[List.length_take,List.length_drop];omega
 refine⟨q,n,by rw[hl],by omega,by omega,?_⟩
 rcases Nat.eq_zero_or_pos n with h0|h0
 ·left;subst h0;simp
 ·rcases h3 with h3|⟨x,rfl,hb2,h4⟩
  ·exfalso;rw[h3] at hn;simp at hn;omega
  ·right
   rw[hq (by omega)]
   have hbl:(x.add a).block=x.block:=by unfold Addr.add;split <;> rfl
   refine⟨x.add a,rfl,by rw[hbl];exact hb2,λj u hu=>?_⟩
   rw[Addr.add_add];refine h4 (a+j) u ?_;rw[zg,List.map_take,List.map_drop] at hu;have hj:j<n:=by
    rcases Nat.lt_or_ge j n with h|h
    ·exact h
    ·rw[List.getElem?_eq_none (by rw[List.length_take];omega)] at hu;cases hu
   rw[List.getElem?_take_of_lt hj,List.getElem?_drop] at hu
   exact hu
def qs (B:Nat) (w:World) (rb:Nat) (all:List Int) (at_:Nat) (bad:Bool) (n:Nat) (R:Value→World→List Int→Prop) (z:Value) (e:Ending) (w':World):Prop:=
 zm (λk=>k=rb) w w'∧if bad=false∧n≤all.length-at_ then (∃v,e = .returned v∧R v w' ((all.drop at_).take n))∧Rdr B w' rb all (at_+n) false else e = .returned z∧Rdr B w' rb all at_ true
set_option maxRecDepth 100000 in
theorem zcy (h:Rdr B w rb all at_ bad) (n:Nat) (hn:n≤4294967296) :
  Calls Tryz.prog 214 #[.pointer (some ⟨rb,0,none⟩),.int .i64 n] w (qs B w rb all at_ bad n (λv w' l=>Un B w' v l) (.slice none 0 0)):=by
 have hrl:=h.lt;have hB:=h.le;have HL:=zd (zo6 h);have HBad:Hid (∀W bd,Rdr B W rb all at_ bd→Calls Tryz.prog 223 #[.pointer (some ⟨rb,0,none⟩)] W λe w'=>e = .returned (.bool bd)∧w'=W):=(λW bd h=>zlc h)
 have HF:Hid (∀W,w.grownBy W none→Calls Tryz.prog 248 #[.pointer (some ⟨rb,0,none⟩)] W λe w'=>e = .returned (.tuple #[])∧Rdr B w' rb all at_ true∧zm (λk=>k=rb) w w'):=(λW hg=>(zor (h.kept hg)).mono λe w' ⟨h1,h2,h3⟩=>⟨h1,h2,vo hg h3⟩)
 by_cases hok:bad=false∧n≤all.length-at_
 ·obtain⟨rfl,hle⟩:=hok
  obtain⟨v,hb,hv⟩:=h.ex;have hp:=h.pos;have hl:=h.len;have HV:=zd hv;have HH:=zd h;obtain⟨p,cap,rfl,hlc,-⟩:=hv.ex;refine Calls.mono (R:=λe w'=>zm (λk=>k=rb) w w'∧((∃v,e = .returned v∧Un B w' v ((all.drop at_).take n))∧Rdr B w' rb all (at_+n) false)) ?_ (λe w' h=>by unfold qs;rw[if_pos ⟨rfl,hle⟩];exact h)
  have HX:Hid (∀W q,w.grownBy W none→(n≠0→q=p.map (λx=>x.add at_))→(zm (λk=>k=rb) w (W.setCell ⟨rb,1,none⟩ (.int .i64 ((at_:Int)+n))).drew∧Un B (W.setCell ⟨rb,1,none⟩ (.int .i64 ((at_:Int)+n))).drew (.slice q n n) ((all.drop at_).take n)∧Rdr B (W.setCell ⟨rb,1,none⟩ (.int .i64 ((at_:Int)+n))).drew rb all (at_+n) false)):=(λW q hg hq=>by
   have hv2:Un B W (.slice p all.length cap) all:=hv.turn λk hk=>hg.block k (by omega) (by simp)
   have hb2:=(hg.block rb hrl (by simp)).trans hb
   have hv3:Un B (W.setCell ⟨rb,1,none⟩ (.int .i64 ((at_:Int)+n))).drew (.slice p all.length cap) all:=hv2.turn λk hk=>Below.heap_setCell _ _ _ k (by show k≠rb;omega)
   have ht:=yh W rb 1 (.int .i64 ((at_:Int)+n));refine⟨vo hg ⟨ht.os,ht.tape,ht.output,ht.size,ht.block⟩,hv3.mid (by omega) hq,⟨hB,hl,by omega,_,?_,hv3⟩⟩
   simp[World.setCell,World.drew,Array.getElem?_modify,hb2])
  clear h hv;have c0:w.cell? ⟨rb,0,none⟩=some (.slice p all.length cap):=by simp[World.cell?,hb]
  have c1:w.cell? ⟨rb,1,none⟩=some (.int .i64 at_):=by simp[World.cell?,hb]
  have y1:w.frozen? ⟨rb,1,none⟩=false:=by simp[World.frozen?,hb]
  have HZ:Hid (∀W:World,w.grownBy W none→W.frozen? ⟨rb,1,none⟩=false):=(λW hg=>by have hb2:=(hg.block rb hrl (by simp)).trans hb;simp[World.frozen?,hb2])
  clear hb;generalize all.length=L at *;have hlt:decide (((L-at_:Nat):Int)<(n:Int))=false:=by simp;omega
  go_enter Tryz.func214,Tryz.ntmps214
  go_wp2_with (first
   | (go_at_call 224;refine HL.out.mono ?_;rintro e w1 ⟨rfl,hg⟩;have d0:=hg.cell c0 (by simp);have d1:=hg.cell c1 (by simp);have z1:=HZ.out _ hg;have HG:=zd hg;clear hg c0 c1 y1)
   | (go_at_call 223;refine(HBad.out _ _ (HH.out.kept HG.out)).mono ?_;rintro e w2 ⟨rfl,h5⟩;obtain rfl:w1=w2:=h5.symm))
  go_region
  all_goals go_wp2
  ·go_ret
   have hq:=HX.out w1 p HG.out (by omega)
   have h0:n=0:=by omega
   refine⟨hq.1,⟨_,rfl,?_⟩,?_⟩
   ·have:=hq.2.1;rw[h0] at this ⊢;exact this
   ·have:=hq.2.2;rw[h0] at this ⊢;exact this
  ·go_ret
   have hq:=HX.out w1 (p.map (λx=>x.add at_)) HG.out (λ_=>rfl)
   exact⟨hq.1,⟨_,rfl,hq.2.1⟩,hq.2.2⟩
 ·refine Calls.mono (R:=λe w'=>zm (λk=>k=rb) w w'∧(e = .returned (.slice none 0 0)∧Rdr B w' rb all at_ true)) ?_ (λe w' h=>by unfold qs;rw[if_neg hok];exact h)
  have hl:=h.len;have HK:Hid (∀W,w.grownBy W none→Rdr B W rb all at_ bad):=(λW hg=>h.kept hg)
  clear h;generalize all.length=L at *
  cases bad
  ·have hlt2:L-at_<n:=by simp at hok;omega
   clear hok
   go_enter Tryz.func214,Tryz.ntmps214
   go_wp2_with (first
    | (go_at_call 224;refine HL.out.mono ?_;rintro e w1 ⟨rfl,hg⟩;have HG:=zd hg;clear hg)
    | (go_at_call 248;refine(HF.out _ HG.out).mono ?_;rintro e w2 ⟨rfl,hr,ht⟩;have HR:=zd hr;have HT:=zd ht;clear hr ht)
    | (go_at_call 223;refine(HBad.out _ _ HR.out).mono ?_;rintro e w3 ⟨rfl,h5⟩;obtain rfl:w2=w3:=h5.symm))
   go_ret
   exact⟨HT.out,rfl,HR.out⟩
  ·clear hok
   rcases Nat.eq_zero_or_pos n with h0|h0
   ·subst h0
    go_enter Tryz.func214,Tryz.ntmps214
    go_wp2_with (first
     | (go_at_call 224;refine HL.out.mono ?_;rintro e w1 ⟨rfl,hg⟩;have HG:=zd hg;clear hg)
     | (go_at_call 223;refine(HBad.out _ _ (HK.out _ HG.out)).mono ?_;rintro e w3 ⟨rfl,h5⟩;obtain rfl:w1=w3:=h5.symm))
    go_ret
    exact⟨vo HG.out (zm.refl _ _),rfl,HK.out _ HG.out⟩
   ·go_enter Tryz.func214,Tryz.ntmps214
    go_wp2_with (first
     | (go_at_call 224;refine HL.out.mono ?_;rintro e w1 ⟨rfl,hg⟩;have HG:=zd hg;clear hg)
     | (go_at_call 248;refine(HF.out _ HG.out).mono ?_;rintro e w2 ⟨rfl,hr,ht⟩;have HR:=zd hr;have HT:=zd ht;clear hr ht)
     | (go_at_call 223;refine(HBad.out _ _ HR.out).mono ?_;rintro e w3 ⟨rfl,h5⟩;obtain rfl:w2=w3:=h5.symm))
    go_ret
    exact⟨HT.out,rfl,HR.out⟩
set_option maxRecDepth 100000 in
theorem zfc (W:World):Calls Tryz.prog 97 #[.slice none 0 0] W λe w'=>e = .returned (.slice none 0 0)∧w'=W:=by
 go_enter Tryz.func97,Tryz.ntmps97
 go_wp2
 go_ret
 exact⟨rfl,rfl⟩
set_option maxRecDepth 100000 in
theorem zpy (h:Rdr B w rb all at_ bad) (hw:B≤w.heap.size) (n:Nat) (hn:n≤4294967296) :
  Calls Tryz.prog 167 #[.pointer (some ⟨rb,0,none⟩),.int .i64 n] w (qs B w rb all at_ bad n (λv w' l=>w'.ownsRow w.heap.size 5 1 v l.length (zg l)) (.slice none 0 0)):=by
 have HC:=zd (zcy h n hn);have hl:=h.len;clear h
 by_cases hok:bad=false∧n≤all.length-at_
 ·refine Calls.mono (R:=λe w'=>zm (λk=>k=rb) w w'∧((∃v,e = .returned v∧w'.ownsRow w.heap.size 5 1 v ((all.drop at_).take n).length (zg ((all.drop at_).take n)))∧Rdr B w' rb all (at_+n) false)) ?_ (λe w' h=>by unfold qs;rw[if_pos hok];exact h)
  have HC2:Hid (Calls Tryz.prog 214 #[.pointer (some ⟨rb,0,none⟩),.int .i64 n] w λe w'=>zm (λk=>k=rb) w w'∧((∃v,e = .returned v∧Un B w' v ((all.drop at_).take n))∧Rdr B w' rb all (at_+n) false)):=(HC.out.mono λe w' h=>by unfold qs at h;rw[if_pos hok] at h;exact h)
  have hl2:((all.drop at_).take n).length≤100000000:=by rw[List.length_take,List.length_drop];omega
  generalize (all.drop at_).take n=xs at *;clear HC hok;have hlw:∀w1:World,zm (λk=>k=rb) w w1→w.heap.size≤w1.heap.size:=λw1 h=>h.size
  have HLW:=zd hlw;clear hlw
  go_enter Tryz.func167,Tryz.ntmps167
  go_wp2_with (first
   | (go_at_call 214;refine HC2.out.mono ?_;rintro e w1 ⟨ht,⟨v,rfl,hv⟩,hr⟩;have HT:=zd ht;have HR:=zd hr;have HV:=zd hv;clear ht hr hv)
   | (go_at_call 97;refine(Xb HV.out.raw hl2 (λe=>HV.out.raw.nil e)).mono ?_;rintro e w2 ⟨v2,rfl,ho,hg⟩;have HO:=zd (Xf ho (HLW.out _ HT.out));have HG:=zd hg;clear ho hg))
  go_ret
  exact⟨HT.out.trans (vo HG.out (zm.refl _ _)),⟨_,rfl,HO.out⟩,HR.out.kept HG.out⟩
 ·refine Calls.mono (R:=λe w'=>zm (λk=>k=rb) w w'∧(e = .returned (.slice none 0 0)∧Rdr B w' rb all at_ true)) ?_ (λe w' h=>by unfold qs;rw[if_neg hok];exact h)
  have HC2:Hid (Calls Tryz.prog 214 #[.pointer (some ⟨rb,0,none⟩),.int .i64 n] w λe w'=>zm (λk=>k=rb) w w'∧(e = .returned (.slice none 0 0)∧Rdr B w' rb all at_ true)):=(HC.out.mono λe w' h=>by unfold qs at h;rw[if_neg hok] at h;exact h)
  clear HC hok
  go_enter Tryz.func167,Tryz.ntmps167
  go_wp2_with (first
   | (go_at_call 214;refine HC2.out.mono ?_;rintro e w1 ⟨ht,rfl,hr⟩;have HT:=zd ht;have HR:=zd hr;clear ht hr)
   | (go_at_call 97;refine(zfc _).mono ?_;rintro e w2 ⟨rfl,h5⟩;obtain rfl:w1=w2:=h5.symm))
  go_ret
  exact⟨HT.out,rfl,HR.out⟩
set_option maxRecDepth 100000 in
theorem zng (h:zx w v l) (hl:l.length≤1000000) (hn:v = .slice none 0 0→l = []) :
  Calls Tryz.prog 163 #[v] w λe w'=>∃rb,e = .returned (.pointer (some ⟨rb,0,none⟩))∧Rdr rb w' rb l 0 false∧w.grownBy w' none∧w.heap.size≤rb:=by
 have HC:=zd (Xb h (by omega) hn)
 clear h hn
 go_enter Tryz.func163,Tryz.ntmps163
 go_wp2_with (go_at_call 97;refine HC.out.mono ?_;rintro e w1 ⟨v1,rfl,ho,hg⟩;obtain⟨p1,c1,rfl⟩:=jl ho;have HO:=zd ho;have HG:=zd hg;clear ho hg)
 go_ret
 refine⟨w1.heap.size,rfl,⟨Nat.le_refl _,hl,Nat.zero_le _,_,heap_alloc_new _ _,?_⟩,zp HG.out _,HG.out.size⟩;have hk:=HO.out.kept (zp (zi w1) (.cells #[.slice p1 l.length c1,.int .i64 0,.bool false] 306)) (by
  rcases h:Value.ownBlock (.slice p1 l.length c1) with _|k
  ·exact Or.inl rfl
  ·exact Or.inr (by simp))
 obtain⟨p,cap,e1,hc⟩:=(vw hk).ex
 injection e1 with e4 _ e6
 subst e4 e6
 rcases HO.out.2 with ⟨e1,h0⟩|⟨b,c,cur,e1,h1,hb,r1,r2,r3,r4⟩
 ·refine⟨p1,c1,rfl,?_,?_,Or.inl (List.eq_nil_of_length_eq_zero h0)⟩ <;> (injection e1 with _ _ e3;omega)
 ·injection e1 with e4 e5 e6
  subst e4 e6;refine⟨_,_,rfl,r1,by unfold maxLen at r2;omega,?_⟩
  rcases hc with hc|⟨a,ha,hc⟩
  ·exact Or.inl hc
  ·refine Or.inr ⟨a,ha,?_,hc⟩
   cases ha
   exact(Array.getElem?_eq_some_iff.1 hb).1
end
def zhj (m:List (Int × List Int)):Prop:=∀p∈m,p.2.length=256∧BL p.2
structure DAt (own:Nat→Prop) (W:World) (db sb nb:Nat) (lv:Value) (d:Dk):Prop where
 box:W.heap[db]? = some (.cells #[.int .i64 d.n,.map (some sb),.map (some nb),lv,.int .i64 (wrap64 d.steps),.int .i64 d.well,.bool d.off] 167 (0,0))
 st:yg W sb (Value.int .i64) vm d.st
 now:yg W nb (Value.int .i64) vm d.now
 late:W.ownsRow 0 176 257 lv d.late.length (d.late.flatMap zl)
 sn:sb≠nb
 odb:¬own db
 osb:¬own sb
 onb:¬own nb
 olv:∀g,lv.ownBlock=some g→¬own g
 lt:∀k,own k→k<W.heap.size
 n:d.n≤4096
 w0 : -1≤d.well
 w1:d.well<9223372036854775808
 bst:zhj d.st
 bnow:zhj d.now
 blate:zhj d.late
 few:d.late.length≤1000000
structure vk (own:Nat→Prop) (W:World) (db:Nat) (d:Dk):Prop where
 ex:∃sb nb lv,DAt own W db sb nb lv d
def uk (own:Nat→Prop) (W:World) (db:Nat) (d:Dk) (v:Value) (e:Ending) (w':World):Prop:=e = .returned v∧vk own w' db d∧zm (λk=>¬own k) W w'
theorem own_lt {base size:Nat} {e:TypeId} {xs:List Value} (h:W.ownsRow base e size v n xs) {g:Nat} (hg:v.ownBlock=some g):g<W.heap.size:=(h.lt g hg).2
section
variable {own : Nat → Prop} {W W' : World} {db sb nb : Nat} {lv : Value} {d : Dk}
theorem DAt.dlt (h:DAt own W db sb nb lv d):db<W.heap.size:=(Array.getElem?_eq_some_iff.1 h.box).1
theorem DAt.kept (h:DAt own W db sb nb lv d) (hg:W.grownBy W' none):DAt own W' db sb nb lv d where
 box:=(hg.block db h.dlt (by simp)).trans h.box
 st:=h.st.kept hg (by simp)
 now:=h.now.kept hg (by simp)
 late:=h.late.kept hg (by
  rcases h2:lv.ownBlock with _|k
  ·exact Or.inl rfl
  ·exact Or.inr (by simp))
 sn:=h.sn
 odb:=h.odb
 osb:=h.osb
 onb:=h.onb
 olv:=h.olv
 lt:=λk hk=>Nat.lt_of_lt_of_le (h.lt k hk) hg.size
 n:=h.n
 w0:=h.w0
 w1:=h.w1
 bst:=h.bst
 bnow:=h.bnow
 blate:=h.blate
 few:=h.few
theorem vk.kept (h:vk own W db d) (hg:W.grownBy W' none):vk own W' db d:=by
 obtain⟨sb,nb,lv,h⟩:=h.ex
 exact⟨sb,nb,lv,h.kept hg⟩
theorem DAt.less (h:DAt own W db sb nb lv d) (hs:∀k,own' k→own k):DAt own' W db sb nb lv d:=
 ⟨h.box,h.st,h.now,h.late,h.sn,λe=>h.odb (hs _ e),λe=>h.osb (hs _ e),λe=>h.onb (hs _ e),λg hg e=>h.olv g hg (hs _ e),λk hk=>h.lt k (hs k hk),h.n,h.w0,h.w1,h.bst,h.bnow,h.blate,h.few⟩
theorem vk.less (h:vk own W db d) (hs:∀k,own' k→own k):vk own' W db d:=by
 obtain⟨sb,nb,lv,h⟩:=h.ex
 exact⟨sb,nb,lv,h.less hs⟩
theorem vk.more (h:vk own W db d) (hg:W.grownBy W' none) (hs:∀k,own' k→own k∨W.heap.size≤k) (hl:∀k,own' k→k<W'.heap.size):vk own' W' db d:=by
 obtain⟨sb,nb,lv,h⟩:=h.ex;have h':=h.kept hg;have a1:=h.dlt;have a2:=h.st.lt;have a3:=h.now.lt;refine⟨sb,nb,lv,h'.box,h'.st,h'.now,h'.late,h'.sn,λe=>?_,λe=>?_,λe=>?_,λg hg2 e=>?_,hl,h.n,h.w0,h.w1,h.bst,h.bnow,h.blate,h.few⟩
 ·rcases hs _ e with e|e
  ·exact h.odb e
  ·omega
 ·rcases hs _ e with e|e
  ·exact h.osb e
  ·omega
 ·rcases hs _ e with e|e
  ·exact h.onb e
  ·omega
 ·have:=own_lt h.late hg2
  rcases hs _ e with e|e
  ·exact h.olv g hg2 e
  ·omega
theorem vk.dlt (h:vk own W db d):db<W.heap.size:=by
 obtain⟨sb,nb,lv,h⟩:=h.ex
 exact h.dlt
theorem vk.own_lt (h:vk own W db d) {k:Nat} (hk:own k):k<W.heap.size:=by
 obtain⟨sb,nb,lv,h⟩:=h.ex
 exact h.lt k hk
theorem DAt.cells (h:DAt own W db sb nb lv d):W.cell? ⟨db,0,none⟩=some (.int .i64 d.n)∧W.cell? ⟨db,1,none⟩=some (.map (some sb))∧W.cell? ⟨db,2,none⟩=some (.map (some nb))∧W.cell? ⟨db,3,none⟩=some lv∧W.cell? ⟨db,4,none⟩=some (.int .i64 (wrap64 d.steps))∧W.cell? ⟨db,5,none⟩=some (.int .i64 d.well)∧W.cell? ⟨db,6,none⟩=some (.bool d.off)∧∀i,W.frozen? ⟨db,i,none⟩=false:=by
 have hb:=h.box;refine⟨?_,?_,?_,?_,?_,?_,?_,λi=>?_⟩ <;> simp[World.cell?,World.frozen?,hb]
theorem DAt.set (h:DAt own W db sb nb lv d) (i:Nat) (v:Value) (d':Dk) (hb:(#[.int .i64 d.n,.map (some sb),.map (some nb),lv,.int .i64 (wrap64 d.steps),.int .i64 d.well,.bool d.off]:Array Value).setIfInBounds i v = #[.int .i64 d'.n,.map (some sb),.map (some nb),lv,.int .i64 (wrap64 d'.steps),.int .i64 d'.well,.bool d'.off])
 (e1:d'.st=d.st) (e2:d'.now=d.now) (e3:d'.late=d.late) (e4:d'.n=d.n) (e5 : -1≤d'.well) (e6:d'.well<9223372036854775808):DAt own (W.setCell ⟨db,i,none⟩ v) db sb nb lv d':=by
 have hs:=zv W db i v;have hx:=h.box;have h1:sb≠db:=λe=>by obtain⟨es,c,hb2,_⟩:=h.st;rw[e,hx] at hb2;cases hb2
 have h2:nb≠db:=λe=>by obtain⟨es,c,hb2,_⟩:=h.now;rw[e,hx] at hb2;cases hb2
 refine⟨?_,by rw[e1];exact h.st.kept hs (by simp;exact h1),by rw[e2];exact h.now.kept hs (by simp;exact h2),?_,h.sn,h.odb,h.osb,h.onb,h.olv,λk hk=>Nat.lt_of_lt_of_le (h.lt k hk) hs.size,by rw[e4];exact h.n,e5,e6,by rw[e1];exact h.bst,by rw[e2];exact h.bnow,by rw[e3];exact h.blate,by rw[e3];exact h.few⟩
 ·simp only[World.setCell,Array.getElem?_modify,hx,if_true,Option.map_some]
  rw[hb]
  rfl
 ·rw[e3]
  refine h.late.kept hs ?_
  rcases h3:lv.ownBlock with _|k
  ·exact Or.inl rfl
  ·right
   intro e;simp at e
   rcases h.late.2 with ⟨e4,_⟩|⟨b,c,cur,e4,_,hb2,_⟩
   ·rw[e4] at h3;simp[Value.ownBlock] at h3
   ·rw[e4] at h3;simp[Value.ownBlock] at h3
    subst h3;subst e;rw[hx] at hb2
    cases hb2
theorem ju (h:DAt own W db sb nb lv d) (i:Nat) (v:Value):zm (λk=>¬own k) W (W.setCell ⟨db,i,none⟩ v):=
 (yh W db i v).mono λk hk ho=>h.odb (hk ▸ ho)
set_option maxRecDepth 100000 in
theorem zgp (h:vk own W db d):Calls Tryz.prog 81 #[.pointer (some ⟨db,0,none⟩)] W λe w'=>e = .returned (.int .i64 d.n)∧w'=W:=by
 obtain⟨sb,nb,lv,h⟩:=h.ex;obtain⟨c0,c1,c2,c3,c4,c5,c6,y⟩:=h.cells;clear h
 go_enter Tryz.func81,Tryz.ntmps81
 go_wp2
 go_ret
 exact⟨rfl,rfl⟩
set_option maxRecDepth 100000 in
theorem doff (h:vk own W db d):Calls Tryz.prog 33 #[.pointer (some ⟨db,0,none⟩)] W λe w'=>e = .returned (.bool d.off)∧w'=W:=by
 obtain⟨sb,nb,lv,h⟩:=h.ex;obtain⟨c0,c1,c2,c3,c4,c5,c6,y⟩:=h.cells;clear h
 go_enter Tryz.func33,Tryz.ntmps33
 go_wp2
 go_ret
 exact⟨rfl,rfl⟩
set_option maxRecDepth 100000 in
theorem dsteps (h:vk own W db d):Calls Tryz.prog 113 #[.pointer (some ⟨db,0,none⟩)] W λe w'=>e = .returned (.int .i64 (wrap64 d.steps))∧w'=W:=by
 obtain⟨sb,nb,lv,h⟩:=h.ex;obtain⟨c0,c1,c2,c3,c4,c5,c6,y⟩:=h.cells;clear h
 go_enter Tryz.func113,Tryz.ntmps113
 go_wp2
 go_ret
 exact⟨rfl,rfl⟩
def Dk.failed (d:Dk) (n:Int):Dk:={ d with well:=max (-1) n }
set_option maxRecDepth 100000 in
theorem dfail (h:vk own W db d) (n:Int) (hn:n<9223372036854775808):Calls Tryz.prog 28 #[.pointer (some ⟨db,0,none⟩),.int .i64 n] W (uk own W db (d.failed n) (.tuple #[])):=by
 obtain⟨sb,nb,lv,h⟩:=h.ex;obtain⟨c0,c1,c2,c3,c4,c5,c6,y⟩:=h.cells;have HS:Hid (∀m,m=max (-1) n→DAt own (W.setCell ⟨db,5,none⟩ (.int .i64 m)) db sb nb lv (d.failed n)∧zm (λk=>¬own k) W (W.setCell ⟨db,5,none⟩ (.int .i64 m))):=(λm hm=>by
  subst hm
  exact⟨h.set 5 _ (d.failed n) rfl rfl rfl rfl rfl (by show -1≤max (-1) n;omega) (by show max (-1) n<_;omega),ju h _ _⟩)
 clear h
 go_enter Tryz.func28,Tryz.ntmps28
 go_wp2
 all_goals first|go_end0|refine bodyPost_ret (results_none rfl _ _ _) rfl ?_
 all_goals exact⟨rfl,⟨_,_,_,(HS.out _ (by omega)).1⟩,(HS.out _ (by omega)).2⟩
def Dk.crashed (d:Dk):Dk:={ d with off:=true,well:=-1 }
set_option maxRecDepth 100000 in
theorem dcrash (h:vk own W db d):Calls Tryz.prog 41 #[.pointer (some ⟨db,0,none⟩)] W (uk own W db d.crashed (.tuple #[])):=by
 obtain⟨sb,nb,lv,h⟩:=h.ex;obtain⟨c0,c1,c2,c3,c4,c5,c6,y⟩:=h.cells;have h1:=h.set 6 (.bool true) { d with off:=true } rfl rfl rfl rfl rfl h.w0 h.w1
 have h2:=h1.set 5 (.int .i64 (-1)) d.crashed rfl rfl rfl rfl rfl (by show(-1:Int)≤-1;omega) (by show(-1:Int)<_;omega)
 have HS:=zd (And.intro h2 ((ju h 6 (.bool true)).trans (ju h1 5 (.int .i64 (-1)))));clear h h1 h2
 go_enter Tryz.func41,Tryz.ntmps41
 go_wp2
 first|go_end0|refine bodyPost_ret (results_none rfl _ _ _) rfl ?_
 exact⟨rfl,⟨_,_,_,HS.out.1⟩,HS.out.2⟩
def Dk.mayE (d:Dk) (i:Int) (n:Nat):Int:=if d.off=true then 180 else if i<0∨(d.n:Int)≤i then 2 else if 256<n then 3 else 0
set_option maxRecDepth 100000 in
theorem dmay (h:vk own W db d) (i:Int) (p:Option Addr) (n c:Nat):Calls Tryz.prog 100 #[.pointer (some ⟨db,0,none⟩),.int .i64 i,.slice p n c] W λe w'=>e = .returned (.int .i64 (d.mayE i n))∧w'=W:=by
 obtain⟨sb,nb,lv,h⟩:=h.ex;obtain⟨c0,c1,c2,c3,c4,c5,c6,y⟩:=h.cells;clear h;unfold Dk.mayE
 cases ho:d.off
 ·rw[ho] at c6
  by_cases hi:i<0
  ·go_enter Tryz.func100,Tryz.ntmps100
   go_wp2
   go_ret
   exact⟨by simp[hi],rfl⟩
  ·by_cases hn:(d.n:Int)≤i
   ·go_enter Tryz.func100,Tryz.ntmps100
    go_wp2
    go_ret
    exact⟨by simp[hn],rfl⟩
   ·by_cases hc:256<n
    ·go_enter Tryz.func100,Tryz.ntmps100
     go_wp2
     go_ret
     exact⟨by simp[hi,hn,hc],rfl⟩
    ·go_enter Tryz.func100,Tryz.ntmps100
     go_wp2
     go_ret
     exact⟨by simp[hi,hn,hc],rfl⟩
 ·rw[ho] at c6
  go_enter Tryz.func100,Tryz.ntmps100
  go_wp2
  go_ret
  exact⟨by simp,rfl⟩
end
def Dk.new (n:Int):Dk:=⟨(min 4096 (max 0 n)).toNat,[],[],[],0,-1,false⟩
theorem DAt.fresh (W:World) (n:Int) (own:Nat→Prop) (ho:∀k,own k→k<W.heap.size) (m:Int) (hm:m=min 4096 (max 0 n)) :
  DAt own (((W.alloc (.map #[] 0)).alloc (.map #[] 0)).alloc (.cells #[.int .i64 m,.map (some W.heap.size),.map (some (W.heap.size+1)),.slice none 0 0,.int .i64 0,.int .i64 (-1),.bool false] 167)) (W.heap.size+2) W.heap.size (W.heap.size+1) (.slice none 0 0) (Dk.new n):=by
 have s1:(W.alloc (.map #[] 0)).heap.size=W.heap.size+1:=by simp
 have s2:((W.alloc (.map #[] 0)).alloc (.map #[] 0)).heap.size=W.heap.size+2:=by simp
 have hm2:((((min 4096 (max 0 n)).toNat:Nat):Int))=m:=by omega
 have hb:=heap_alloc_new ((W.alloc (.map #[] 0)).alloc (.map #[] 0)) (.cells #[.int .i64 m,.map (some W.heap.size),.map (some (W.heap.size+1)),.slice none 0 0,.int .i64 0,.int .i64 (-1),.bool false] 167);rw[s2] at hb;have m1:yg (((W.alloc (.map #[] 0)).alloc (.map #[] 0)).alloc (.cells #[.int .i64 m,.map (some W.heap.size),.map (some (W.heap.size+1)),.slice none 0 0,.int .i64 0,.int .i64 (-1),.bool false] 167)) W.heap.size (Value.int .i64) vm ([]:List (Int × List Int)):=((zfo W (Value.int .i64) vm).alloc _).alloc _;have m2:yg (((W.alloc (.map #[] 0)).alloc (.map #[] 0)).alloc (.cells #[.int .i64 m,.map (some W.heap.size),.map (some (W.heap.size+1)),.slice none 0 0,.int .i64 0,.int .i64 (-1),.bool false] 167)) (W.heap.size+1) (Value.int .i64) vm ([]:List (Int × List Int)):=by
  have:=(zfo (W.alloc (.map #[] 0)) (Value.int .i64) vm).alloc (.cells #[.int .i64 m,.map (some W.heap.size),.map (some (W.heap.size+1)),.slice none 0 0,.int .i64 0,.int .i64 (-1),.bool false] 167)
  rwa [s1] at this
 refine⟨?_,m1,m2,World.ownsRow_nil _ _ _ _,by omega,λe=>by have:=ho _ e;omega,λe=>by have:=ho _ e;omega,λe=>by have:=ho _ e;omega,λg hg=>by simp[Value.ownBlock] at hg,λk hk=>by have:=ho k hk;simp;omega,?_,?_,?_,λp hp=>by simp[Dk.new] at hp,λp hp=>by simp[Dk.new] at hp,λp hp=>by simp[Dk.new] at hp,by simp[Dk.new]⟩
 ·rw[hb]
  simp only[Dk.new,hm2,show wrap64 0=0 from by unfold wrap64;omega]
 ·show(min 4096 (max 0 n)).toNat≤4096;omega
 ·show(-1:Int)≤-1;omega
 ·show(-1:Int)<_;omega
set_option maxRecDepth 100000 in
theorem dnew (n:Int) (W:World):Calls Tryz.prog 19 #[.int .i64 n] W λe w'=>∃db,e = .returned (.pointer (some ⟨db,0,none⟩))∧W.grownBy w' none∧W.heap.size≤db∧∀own:Nat→Prop,(∀k,own k→k<W.heap.size)→vk own w' db (Dk.new n):=by
 have hmm:=@run_makeMap Tryz.prog
 go_enter Tryz.func19,Tryz.ntmps19
 go_wp2
 all_goals go_ret
 all_goals refine⟨_,rfl,?_,?_,λown ho=>⟨_,_,_,DAt.fresh W n own ho _ ?_⟩⟩
 all_goals first
  | omega
  | (simp;done)
  | (repeat (first|exact zi _|refine zp ?_ _))
@[go_sem] theorem eqlMapNil (b:Nat) (w:World):(binOp .eql 164 (.map (some b)) (.map none)).run Tryz.prog w = .ok (.bool false) w:=by kernel_rfl
@[go_sem] theorem asMapB (v:Value) (w:World):(Instr.typeAssert (.iface 164 v) 20 164 false).run Tryz.prog w = .ok v w:=by kernel_rfl
theorem zno {r:Nat} {es:Array MapEntry} {clock:Nat} (t:TypeId) (hb:w.heap[r]? = some (.map es clock)) :
  (Extern.MapsClone.clone #[.iface t (.map (some r))]).run Tryz.prog w = .ok (.iface t (.map (some w.heap.size))) (w.alloc (.map es clock)):=by
 have e:Extern.MapsClone.clone #[.iface t (.map (some r))]=(getObj r >>= λo=>match o with
   | .map entries clock=>(newObj (.map entries clock) >>= λn=>pure (.iface t (.map (some n))))
   | _ => stuck "maps.clone: a map expected") := rfl
 rw[e];simp[MapKept.run_getObj_map hb,Result.andThen,go_sem]
section
variable {own : Nat → Prop} {W W' : World} {db sb nb : Nat} {lv : Value} {d : Dk}
set_option maxRecDepth 100000 in
theorem zpa {m:List (Int × List Int)} (h:yg W b (Value.int .i64) vm m):Calls Tryz.prog 104 #[.map (some b)] W λe w'=>e = .returned (.map (some W.heap.size))∧yg w' W.heap.size (Value.int .i64) vm m∧W.grownBy w' none∧W.heap.size<w'.heap.size:=by
 obtain⟨es,clock,hb,hs,he⟩:=h;have HX:Hid (yg (W.alloc (.map es clock)) W.heap.size (Value.int .i64) vm m):=(show yg _ _ _ _ _ from ⟨es,clock,(MapKept.heap_alloc W _).1,hs,he⟩)
 clear hs he;have hc:=λt=>zno t hb
 go_enter Tryz.func104,Tryz.ntmps104
 go_wp2;rw[run_callFunc_extern Tryz.func176 (by kernel_rfl) (by kernel_rfl) (by kernel_rfl) (e:=Extern.MapsClone.clone) (by kernel_rfl),hc]
 simp only[Result.andThen];rw[Oper.upon_value];go_wp2
 go_ret
 exact⟨rfl,HX.out,ze _ _ _,by simp⟩
theorem yn {i b2 j:Nat} {u:Value} (h:b2≠b∨j≠i) (hc:w.cell? ⟨b2,j,none⟩=some u):(w.setCell ⟨b,i,none⟩ v).cell? ⟨b2,j,none⟩=some u:=by
 by_cases hb:b2=b
 ·subst hb
  have hj:j≠i:=h.resolve_left (λe=>e rfl)
  rw[←hc];simp only[World.cell?,World.setCell,Array.getElem?_modify,if_true]
  cases w.heap[b2]? with
  | none=>rfl
  | some o=>cases o <;> simp[Array.getElem?_setIfInBounds,Ne.symm hj]
 ·rw[World.cell?_setCell_far _ _ _ _ (show b≠b2 from λe=>hb e.symm)];exact hc
def Dk.settled (d:Dk):Dk:={ d with st:=d.now,late:=[] }
theorem DAt.cloned (h:DAt own W db sb nb lv d) {w1:World} (hm:yg w1 b (Value.int .i64) vm d.now) (hg:W.grownBy w1 none) (hb:W.heap.size≤b) :
  DAt own ((w1.setCell ⟨db,1,none⟩ (.map (some b))).setCell ⟨db,3,none⟩ (.slice none 0 0)) db b nb (.slice none 0 0) d.settled∧zm (λk=>¬own k) W ((w1.setCell ⟨db,1,none⟩ (.map (some b))).setCell ⟨db,3,none⟩ (.slice none 0 0)):=by
 have h1:=h.kept hg;have hs1:=zv w1 db 1 (.map (some b));have hs2:=zv (w1.setCell ⟨db,1,none⟩ (.map (some b))) db 3 (.slice none 0 0);have hx:=h1.box;have hn:nb≠db:=λe=>by obtain⟨es,c,hb2,_⟩:=h1.now;rw[e,hx] at hb2;cases hb2
 have hbd:b≠db:=by have:=h.dlt;omega
 have hbn:b≠nb:=by have:=h.now.lt;omega
 have ht1:=(yh w1 db 1 (.map (some b))).mono (cs:=λk=>¬own k) (λk hk ho=>h.odb (hk ▸ ho))
 have ht2:=(yh (w1.setCell ⟨db,1,none⟩ (.map (some b))) db 3 (.slice none 0 0)).mono (cs:=λk=>¬own k) (λk hk ho=>h.odb (hk ▸ ho))
 refine⟨⟨?_,((hm.kept hs1 (by simp;exact hbd)).kept hs2 (by simp;exact hbd)),((h1.now.kept hs1 (by simp;exact hn)).kept hs2 (by simp;exact hn)),World.ownsRow_nil _ _ _ _,hbn,h.odb,λe=>by have:=h.lt _ e;omega,h.onb,λg hg=>by simp[Value.ownBlock] at hg,λk hk=>Nat.lt_of_lt_of_le (h1.lt k hk) (Nat.le_trans hs1.size hs2.size),h.n,h.w0,h.w1,h.bnow,h.bnow,λp hp=>by simp[Dk.settled] at hp,by simp[Dk.settled]⟩,vo hg (ht1.trans ht2)⟩
 simp[World.setCell,Array.getElem?_modify,hx,Dk.settled]
set_option maxRecDepth 100000 in
theorem dsync1 {cb:Nat} (h:DAt own W db sb nb lv d) (hcb:W.cell? ⟨cb,0,none⟩=some (.pointer (some ⟨db,0,none⟩))) (hne:db≠cb):Calls Tryz.prog 103 #[.pointer (some ⟨cb,0,none⟩)] W (uk own W db d.settled (.tuple #[])):=by
 obtain⟨c0,c1,c2,c3,c4,c5,c6,y⟩:=h.cells;have HC:Hid (Calls Tryz.prog 104 #[.map (some nb)] W.drew λe w'=>e = .returned (.map (some W.heap.size))∧yg w' W.heap.size (Value.int .i64) vm d.now∧W.grownBy w' none∧W.heap.size<w'.heap.size):=((zpa (W:=W.drew) h.now).mono λe w' ⟨a,b,c,d⟩=>⟨a,b,⟨c.os,c.tape,c.output,c.size,c.block⟩,d⟩)
 go_enter Tryz.func103,Tryz.ntmps103
 refine qH (S:=λw':World=>w'.cell? ⟨cb,0,none⟩=some (.pointer (some ⟨db,0,none⟩))∧w'.cell? ⟨db,2,none⟩=some (.map (some nb))) ⟨hcb,c2⟩ (λhHeld=>?_)
 refine qT 0 ?_;refine qT 1 ?_;refine qT 2 ?_;refine qT 3 ?_;refine qT 4 ?_;refine qT 5 ?_;refine qO 6 λK hK=>?_
 go_simp
 go_at_call 104
 refine HC.out.mono ?_;rintro e w1 ⟨rfl,hm,hg,-⟩;have HQ:=zd (h.cloned hm hg (Nat.le_refl _));have b1:(w1.cell? ⟨db,1,none⟩)=some (.map (some sb)):=hg.cell c1 (by simp)
 have b3:(w1.cell? ⟨db,3,none⟩)=some lv:=hg.cell c3 (by simp)
 have y1:∀i,w1.frozen? ⟨db,i,none⟩=false:=λi=>by have hb:=(hg.block db h.dlt (by simp)).trans h.box;simp[World.frozen?,hb]
 have s1:w1.cell? ⟨cb,0,none⟩=some (.pointer (some ⟨db,0,none⟩)):=hg.cell hcb (by simp)
 have s2:w1.cell? ⟨db,2,none⟩=some (.map (some nb)):=hg.cell c2 (by simp)
 clear hm hg;refine hK.out _ _ ⟨s1,s2⟩ (λhHeld=>?_)
 clear hK K;refine qT 7 ?_;refine qT 8 ?_;refine qO 9 λK hK=>?_
 go_simp
 refine hK.out _ _ ⟨yn (Or.inl (Ne.symm hne)) hHeld.1,yn (Or.inr (by decide)) hHeld.2⟩ (λhHeld=>?_)
 clear hK K;refine qT 10 ?_;refine qT 11 ?_;refine qO 12 λK hK=>?_
 go_simp
 refine hK.out _ _ ⟨yn (Or.inl (Ne.symm hne)) hHeld.1,yn (Or.inr (by decide)) hHeld.2⟩ (λhHeld=>?_)
 clear hK K;refine qD ?_
 go_wp2_with fail
 first|go_end0|refine bodyPost_ret (results_none rfl _ _ _) rfl ?_
 exact⟨rfl,⟨_,_,_,HQ.out.1⟩,HQ.out.2⟩
end
end Go.Proofs.YtbcbhlfjgobejaaGreat
