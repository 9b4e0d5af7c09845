/- The document's table: ends: the walk. Conditions: none, or as the theorems say. -/
import Derived.Test.YtjfelfjobeeenaaGreatN24
theorem Go.Sf.Jzb (w:Go.World) (o:Go.Obj) {r:Nat} (h:r<w.heap.size):(w.alloc o).heap[r]? = w.heap[r]?:=by
 rw[show(w.alloc o).heap=w.heap.push o from rfl,Array.getElem?_push,if_neg (Nat.ne_of_lt h)]
namespace Go.Proofs.YtjfelfjobeeenaaGreat
set_option maxHeartbeats 200000000
set_option linter.unusedVariables false
set_option linter.unusedSimpArgs false
open Go.RowKit Go.Sf Go.Shelf
section
variable {α : Type} {W : World} {E : TypeId} {sz : Nat} {enc : α → List Value} {l : List α} {g cap : Nat}
theorem ziq (he:∀x,(enc x).length=sz):∀(l:List α) (k:Nat),(l.take k).flatMap enc=(l.flatMap enc).take (k*sz)
 | [],k=>by simp
 | x :: r,0=>by simp
 | x :: r,k+1=>by
  have e:(k+1)*sz=(enc x).length+k*sz:=by rw[he,Nat.succ_mul];omega
  simp only[List.take_succ_cons,List.flatMap_cons];rw[e,List.take_length_add_append,ziq he r k]
theorem zip (he:∀x,(enc x).length=sz):∀(l:List α) (k:Nat),(l.drop k).flatMap enc=(l.flatMap enc).drop (k*sz)
 | [],k=>by simp
 | x :: r,0=>by simp
 | x :: r,k+1=>by
  have e:(k+1)*sz=(enc x).length+k*sz:=by rw[he,Nat.succ_mul];omega
  simp only[List.drop_succ_cons,List.flatMap_cons];rw[e,List.drop_length_add_append,zip he r k]
theorem uu.cellsAt (h:uu W E sz enc (.slice (some ⟨g,0,none⟩) l.length cap) l) (j:Nat) (u:Value) (hu:(l.flatMap enc)[j]? = some u):W.cell? ⟨g,j,none⟩=some u:=by
 have hj:j<l.length*sz:=by
  have h1:=(List.getElem?_eq_some_iff.1 hu).1;have h2:=h.1;omega
 rw[World.ownsRow.cellAt h j hj]
 exact hu
theorem zez (he:∀x,(enc x).length=sz) (h:uu W E sz enc (.slice (some ⟨g,0,none⟩) l.length cap) l) (k:Nat) (hk:k≤l.length) (c:Nat):zh7 W enc (.slice (some ⟨g,0,none⟩) k c) (l.take k):=by
 refine⟨some ⟨g,0,none⟩,c,by rw[List.length_take,Nat.min_eq_left hk],Or.inr ⟨_,rfl,fun j u hu=>?_⟩⟩
 rw[ziq he] at hu;have hj:j<k*sz:=by
  rcases Nat.lt_or_ge j (k*sz) with h|h
  ·exact h
  ·rw[List.getElem?_eq_none (by rw[List.length_take];omega)] at hu;cases hu
 rw[List.getElem?_take_of_lt hj] at hu;rw[Addr.add_lit];simpa using h.cellsAt j u hu
theorem zjv (he:∀x,(enc x).length=sz) (h:uu W E sz enc (.slice (some ⟨g,0,none⟩) l.length cap) l) (k:Nat) (hk:k≤l.length) (n:Nat) (hn:n=l.length-k) (o:Nat) (ho:o=k*sz) (c:Nat):zh7 W enc (.slice (some ⟨g,o,none⟩) n c) (l.drop k):=by
 subst ho hn;refine⟨some ⟨g,k*sz,none⟩,c,by rw[List.length_drop],Or.inr ⟨_,rfl,fun j u hu=>?_⟩⟩
 rw[zip he,List.getElem?_drop] at hu;rw[Addr.add_lit]
 exact h.cellsAt _ u hu
theorem zey (l:List α) (k:Nat) (hk:l.drop k = []) (n:Nat) (hn:n=0) (p:Option Addr) (c:Nat):zh7 W enc (.slice p n c) (l.drop k):=by
 subst hn
 exact⟨p,c,by rw[hk];rfl,Or.inl hk⟩
end
def Xm (i:ID) (p:xd):Value:=.agg #[.string i.key,.int .i64 i.zvz,.int .i64 p.zvw,.int .i64 p.zvy]
theorem zn0 {α:Type} {W w1 w2 wx:World} {E:TypeId} {sz:Nat} {enc:α→List Value} {v1 v2:Value} {l1 l2:List α} (h1:Uc W E sz enc (.slice none 0 0) l1 v1 w1) (hg:w1.grownBy wx none) (h2:Uc wx E sz enc v1 l2 v2 w2) :
  W.grownBy w2 none∧∀g,v2.ownBlock=some g→W.heap.size≤g:=by
 have e1:W.grownBy w1 none:=h1.2.1;have hv1:∀g,v1.ownBlock=some g→W.heap.size≤g:=fun g hg2=>by
  rcases h1.2.2 with e|e
  ·rw[e] at hg2;cases hg2
  ·rw[e] at hg2;cases hg2;exact Nat.le_refl _
 refine⟨jk (ze e1 hg) h2.2.1 hv1,fun g hg2=>?_⟩
 rcases h2.2.2 with e|e
 ·exact hv1 g (e ▸ hg2)
 ·rw[e] at hg2;cases hg2;exact Nat.le_trans e1.size hg.size
theorem zd6 {α:Type} {f:α→Bool}:∀{l:List α} {k:Nat},Ze f l k→(hk:k<l.length)→f l[k]=true→l.eraseP f=l.eraseIdx k
 | x :: r,0,h,hk,hf=>by simp only[List.getElem_cons_zero] at hf;rw[List.eraseP_cons_of_pos hf];rfl
 | x :: r,k+1,h,hk,hf=>by
  have h0:=h 0 (by simp) (by omega)
  simp only[List.getElem_cons_zero] at h0;rw[List.eraseP_cons_of_neg (by simp[h0]),List.eraseIdx_cons_succ,zd6 (k:=k) (fun j hj hjk=>by have:=h (j+1) (by simpa using hj) (by omega);simpa using this) (by simpa using hk) (by simpa using hf)]
section
variable {bs : Nat → Prop} {W w : World} {rb b : Nat} {R : yp}
theorem Vy (h:RAt (fun k=>bs k∧k≠b) w rb R∧yc (fun k=>bs k∧k≠b) W w) (hb:W.heap.size≤b) (i:Nat) (u:Value):RAt (fun k=>bs k∧k≠b) (w.setCell ⟨b,i,none⟩ u) rb R∧yc (fun k=>bs k∧k≠b) W (w.setCell ⟨b,i,none⟩ u):=by
 refine⟨h.1.turn (cs:=bs) fun k hk hb2=>zz w _ _ k hb2.2,⟨h.2.os,h.2.tape,h.2.output,Nat.le_trans h.2.size (by simp[World.setCell]),fun k hk hn=>?_⟩⟩
 exact(zz w _ _ k (by show k≠b;omega)).trans (h.2.block k hk hn)
theorem znq (h:RAt (fun k=>bs k∧k≠b) w rb R∧yc (fun k=>bs k∧k≠b) W w):RAt bs w rb R∧yc bs W w:=
 ⟨h.1.mono fun k _ hk=>hk.1,h.2.mono fun k hk=>hk.1⟩
theorem jy.side {vL vC vV vP vH:Value} {R:yp} (h:jy bs W rb vL vC vV vP vH) (hm:vw W rb R vL vC vV vP vH) (hg:W.heap.size<w.heap.size) (hb:b=W.heap.size):jy (fun k=>bs k∧k≠b) w rb vL vC vV vP vH:=by
 subst hb;obtain⟨a0,aL,aC,aV,aP,aH,aN⟩:=h
 exact⟨⟨a0,by have:=hm.lt;omega⟩,fun g hg2=>⟨aL g hg2,by have:=hm.zv0.lt hg2;omega⟩,fun g hg2=>⟨aC g hg2,by have:=hm.calls.lt hg2;omega⟩,fun g hg2=>⟨aV g hg2,by have:=hm.vals.lt hg2;omega⟩,fun g hg2=>⟨aP g hg2,by have:=hm.zv1.lt hg2;omega⟩,fun g hg2=>⟨aH g hg2,by have:=hm.holds.lt hg2;omega⟩,fun k hk=>⟨aN k (by omega),by omega⟩⟩
end
section
variable {bs : Nat → Prop} {W : World} {rb : Nat} {R : yp}
set_option maxRecDepth 100000 in
theorem zb5 (h:RAt bs W rb R) (hbs:∀k,W.heap.size≤k→bs k) (k:Nat) (hk:k<R.zv1.length) (hl:R.zv1.length≤100000000):Calls Tryz.prog 119 #[.pointer (some ⟨rb,0,none⟩),.int .i64 k] W fun e w'=>e = .returned (Xm R.zv1[k].1 R.zv1[k].2)∧RAt bs w' rb { R with zv1:=R.zv1.eraseIdx k }∧yc bs W w':=by
 obtain⟨vL,vC,vV,vP,vH,h,hb1,hb2,hb3,hb4,hb5,hb6⟩:=h;obtain⟨i0,hi,hz0,hz1,hz2⟩:=info_parts infoP;obtain⟨g,cap,rfl,hc,hfz⟩:=(h.zv1.at zeh).resolve_left (fun e=>by rw[e] at hk;simp at hk)
 obtain⟨p2,cap2,e2,hcap,hlc⟩:=h.zv1.form
 injection e2 with e21 e22 e23
 subst e23;have HBS:=za (show jy bs W rb vL vC vV (.slice (some ⟨g,0,none⟩) R.zv1.length cap) vH from ⟨hb1,hb2,hb3,hb4,hb5,hb6,hbs⟩)
 have c7:=h.c7;have zb:=h.free 7;have hrb:=h.lt;have d0:W.cell? ⟨g,k*4,none⟩=some (.string R.zv1[k].1.key):=hc k hk 0 _ rfl;have d1:W.cell? ⟨g,k*4+1,none⟩=some (.int .i64 R.zv1[k].1.zvz):=hc k hk 1 _ rfl;have d2:W.cell? ⟨g,k*4+2,none⟩=some (.int .i64 R.zv1[k].2.zvw):=hc k hk 2 _ rfl;have d3:W.cell? ⟨g,k*4+3,none⟩=some (.int .i64 R.zv1[k].2.zvy):=hc k hk 3 _ rfl;have hgl:g<W.heap.size:=yo d0;have HR:=za h;have hcap2:k<cap:=by omega
 clear h hb1 hb2 hb3 hb4 hb5 hb6 hbs hc hfz e21 e22
 by_cases hce:cap=k+1
 ·subst hce
  have HG2:=za (show W.grownBy ((W.alloc (.cells #[.string ⟨#[]⟩,.int .i64 0,.int .i64 0,.int .i64 0] 190)).alloc (.cells #[.string R.zv1[k].1.key,.int .i64 R.zv1[k].1.zvz,.int .i64 R.zv1[k].2.zvw,.int .i64 R.zv1[k].2.zvy] 190)) none from zg (zg (zd _) _) _)
  have HSZ:Hid (((W.alloc (.cells #[.string ⟨#[]⟩,.int .i64 0,.int .i64 0,.int .i64 0] 190)).alloc (.cells #[.string R.zv1[k].1.key,.int .i64 R.zv1[k].1.zvz,.int .i64 R.zv1[k].2.zvw,.int .i64 R.zv1[k].2.zvy] 190)).heap.size=W.heap.size+2):=(show((W.alloc (.cells #[.string ⟨#[]⟩,.int .i64 0,.int .i64 0,.int .i64 0] 190)).alloc (.cells #[.string R.zv1[k].1.key,.int .i64 R.zv1[k].1.zvz,.int .i64 R.zv1[k].2.zvw,.int .i64 R.zv1[k].2.zvy] 190)).heap.size=W.heap.size+2 from by simp)
  have HB4:Hid (((W.alloc (.cells #[.string ⟨#[]⟩,.int .i64 0,.int .i64 0,.int .i64 0] 190)).alloc (.cells #[.string R.zv1[k].1.key,.int .i64 R.zv1[k].1.zvz,.int .i64 R.zv1[k].2.zvw,.int .i64 R.zv1[k].2.zvy] 190)).heap[W.heap.size]? = some (.cells #[.string ⟨#[]⟩,.int .i64 0,.int .i64 0,.int .i64 0] 190)):=(show((W.alloc (.cells #[.string ⟨#[]⟩,.int .i64 0,.int .i64 0,.int .i64 0] 190)).alloc (.cells #[.string R.zv1[k].1.key,.int .i64 R.zv1[k].1.zvz,.int .i64 R.zv1[k].2.zvw,.int .i64 R.zv1[k].2.zvy] 190)).heap[W.heap.size]? = some (.cells #[.string ⟨#[]⟩,.int .i64 0,.int .i64 0,.int .i64 0] 190) from (Jzb _ _ (by simp)).trans (heap_alloc_new _ _))
  have HB5:Hid (((W.alloc (.cells #[.string ⟨#[]⟩,.int .i64 0,.int .i64 0,.int .i64 0] 190)).alloc (.cells #[.string R.zv1[k].1.key,.int .i64 R.zv1[k].1.zvz,.int .i64 R.zv1[k].2.zvw,.int .i64 R.zv1[k].2.zvy] 190)).heap[W.heap.size+1]? = some (.cells #[.string R.zv1[k].1.key,.int .i64 R.zv1[k].1.zvz,.int .i64 R.zv1[k].2.zvw,.int .i64 R.zv1[k].2.zvy] 190)):=(show((W.alloc (.cells #[.string ⟨#[]⟩,.int .i64 0,.int .i64 0,.int .i64 0] 190)).alloc (.cells #[.string R.zv1[k].1.key,.int .i64 R.zv1[k].1.zvz,.int .i64 R.zv1[k].2.zvw,.int .i64 R.zv1[k].2.zvy] 190)).heap[W.heap.size+1]? = some (.cells #[.string R.zv1[k].1.key,.int .i64 R.zv1[k].1.zvz,.int .i64 R.zv1[k].2.zvw,.int .i64 R.zv1[k].2.zvy] 190) from by have:=heap_alloc_new (W.alloc (.cells #[.string ⟨#[]⟩,.int .i64 0,.int .i64 0,.int .i64 0] 190)) (.cells #[.string R.zv1[k].1.key,.int .i64 R.zv1[k].1.zvz,.int .i64 R.zv1[k].2.zvw,.int .i64 R.zv1[k].2.zvy] 190);simpa using this)
  go_enter Tryz.func119,Tryz.ntmps119
  go_upto_region 3 with fail
  clear c7 zb d0 d1 d2 d3;generalize (W.alloc (.cells #[.string ⟨#[]⟩,.int .i64 0,.int .i64 0,.int .i64 0] 190)).alloc (.cells #[.string R.zv1[k].1.key,.int .i64 R.zv1[k].1.zvz,.int .i64 R.zv1[k].2.zvw,.int .i64 R.zv1[k].2.zvy] 190)=W2 at *;have HR2:=za (HR.out.grown HG2.out);have c7:=HR2.out.c7
  go_wp2_with (at_builtin;refine xr (l:=[]) (m:=R.zv1.take k) _ rfl (.tmp 14) (.tmp 20) 49 rfl zeh oneP i0 _ 40 Tryz.underlying49 hi hz0 hz1 hz2 rfl (by decide) (by decide) rfl ?a1 rfl ?a2 ?a3 k ?a4 ?_)
  case a1=>exact World.ownsRow_nil _ _ _ _
  case a2=>exact zez zeh HR2.out.zv1 k (by omega) _
  case a3=>simp;omega
  case a4=>simp;omega
  intro p1 cap1 w1 ha1;have HA1:=za ha1;have e1:W2.grownBy w1 none:=ha1.2.1;have HR3:=za (HR2.out.grown e1);have B4:=(e1.block W.heap.size (Array.getElem?_eq_some_iff.1 HB4.out).1 (by simp)).trans HB4.out
  have B5:=(e1.block (W.heap.size+1) (Array.getElem?_eq_some_iff.1 HB5.out).1 (by simp)).trans HB5.out
  have H4:=za B4;have H5:=za B5;clear ha1 c7 B4 B5;have HE1:=za e1;clear e1;have c7:=HR3.out.c7;have hk1:(k:Int)+1≤((k+1:Nat):Int):=by omega
  go_wp2_with (at_builtin;refine xr (l:=R.zv1.take k) (m:=R.zv1.drop (k+1)) _ rfl (.tmp 23) (.tmp 30) 49 rfl zeh oneP i0 _ 40 Tryz.underlying49 hi hz0 hz1 hz2 rfl (by decide) (by decide) rfl ?b1 rfl ?b2 ?b3 (R.zv1.length-1) ?b4 ?_)
  case b1=>exact HA1.out.1
  case b2=>exact zey R.zv1 (k+1) (List.drop_eq_nil_of_le (by omega)) _ (by omega) _ _
  case b3=>simp;omega
  case b4=>simp;omega
  intro p2' cap2' w2 ha2;obtain⟨e2,en⟩:=zn0 HA1.out (zd _) ha2;have HE2:=za e2;have HEN:=za en;have HA2:=za ha2;have HR4:=za (HR2.out.grown e2);have B4:=(e2.block W.heap.size (Array.getElem?_eq_some_iff.1 HB4.out).1 (by simp)).trans HB4.out
  have B5:=(e2.block (W.heap.size+1) (Array.getElem?_eq_some_iff.1 HB5.out).1 (by simp)).trans HB5.out
  have c7'':=HR4.out.c7;have z7'':=HR4.out.free 7;have b40:w2.cell? ⟨W.heap.size,0,none⟩=some (.string ⟨#[]⟩):=(zh B4 0).trans rfl;have b41:w2.cell? ⟨W.heap.size,1,none⟩=some (.int .i64 0):=(zh B4 1).trans rfl;have b42:w2.cell? ⟨W.heap.size,2,none⟩=some (.int .i64 0):=(zh B4 2).trans rfl;have b43:w2.cell? ⟨W.heap.size,3,none⟩=some (.int .i64 0):=(zh B4 3).trans rfl;have z40:=yr B4 0;have z41:=yr B4 1;have z42:=yr B4 2;have z43:=yr B4 3;have b50:w2.cell? ⟨W.heap.size+1,0,none⟩=some (.string R.zv1[k].1.key):=(zh B5 0).trans rfl;have b51:w2.cell? ⟨W.heap.size+1,1,none⟩=some (.int .i64 R.zv1[k].1.zvz):=(zh B5 1).trans rfl;have b52:w2.cell? ⟨W.heap.size+1,2,none⟩=some (.int .i64 R.zv1[k].2.zvw):=(zh B5 2).trans rfl;have b53:w2.cell? ⟨W.heap.size+1,3,none⟩=some (.int .i64 R.zv1[k].2.zvy):=(zh B5 3).trans rfl;have n1:¬rb=W.heap.size:=by omega
  have n2:¬rb=W.heap.size+1:=by omega
  have n3:¬W.heap.size=rb:=by omega
  have n4:¬W.heap.size+1=rb:=by omega
  clear e2 en ha2 B4 B5 c7 hk1;go_wp2;refine bodyPost_ret (v:=Xm R.zv1[k].1 R.zv1[k].2) (by simp[Xm,results,Tryz.results119,go_sem, *]) rfl ⟨rfl,?_⟩
  have hA:=jy.side (w:=W2) HBS.out HR.out (by have:=HSZ.out;omega) rfl
  have hN:=RAt.newP (W0:=W2) (bs:=fun k=>bs k∧k≠W.heap.size) (zd _) hA HR2.out HE2.out HA2.out.1 HEN.out
  have ht:R.zv1.take k++R.zv1.drop (k+1)=R.zv1.eraseIdx k:=by rw[List.eraseIdx_eq_take_drop_succ]
  rw[ht] at hN;refine znq (b:=W.heap.size) ?_;refine Vy (Vy (Vy (Vy ⟨hN.1,Zp HG2.out hN.2⟩ (Nat.le_refl _) _ _) (Nat.le_refl _) _ _) (Nat.le_refl _) _ _) (Nat.le_refl _) _ _
 ·skip
  have HG2:=za (show W.grownBy ((W.alloc (.cells #[.string ⟨#[]⟩,.int .i64 0,.int .i64 0,.int .i64 0] 190)).alloc (.cells #[.string R.zv1[k].1.key,.int .i64 R.zv1[k].1.zvz,.int .i64 R.zv1[k].2.zvw,.int .i64 R.zv1[k].2.zvy] 190)) none from zg (zg (zd _) _) _)
  have HSZ:Hid (((W.alloc (.cells #[.string ⟨#[]⟩,.int .i64 0,.int .i64 0,.int .i64 0] 190)).alloc (.cells #[.string R.zv1[k].1.key,.int .i64 R.zv1[k].1.zvz,.int .i64 R.zv1[k].2.zvw,.int .i64 R.zv1[k].2.zvy] 190)).heap.size=W.heap.size+2):=(show((W.alloc (.cells #[.string ⟨#[]⟩,.int .i64 0,.int .i64 0,.int .i64 0] 190)).alloc (.cells #[.string R.zv1[k].1.key,.int .i64 R.zv1[k].1.zvz,.int .i64 R.zv1[k].2.zvw,.int .i64 R.zv1[k].2.zvy] 190)).heap.size=W.heap.size+2 from by simp)
  have HB4:Hid (((W.alloc (.cells #[.string ⟨#[]⟩,.int .i64 0,.int .i64 0,.int .i64 0] 190)).alloc (.cells #[.string R.zv1[k].1.key,.int .i64 R.zv1[k].1.zvz,.int .i64 R.zv1[k].2.zvw,.int .i64 R.zv1[k].2.zvy] 190)).heap[W.heap.size]? = some (.cells #[.string ⟨#[]⟩,.int .i64 0,.int .i64 0,.int .i64 0] 190)):=(show((W.alloc (.cells #[.string ⟨#[]⟩,.int .i64 0,.int .i64 0,.int .i64 0] 190)).alloc (.cells #[.string R.zv1[k].1.key,.int .i64 R.zv1[k].1.zvz,.int .i64 R.zv1[k].2.zvw,.int .i64 R.zv1[k].2.zvy] 190)).heap[W.heap.size]? = some (.cells #[.string ⟨#[]⟩,.int .i64 0,.int .i64 0,.int .i64 0] 190) from (Jzb _ _ (by simp)).trans (heap_alloc_new _ _))
  have HB5:Hid (((W.alloc (.cells #[.string ⟨#[]⟩,.int .i64 0,.int .i64 0,.int .i64 0] 190)).alloc (.cells #[.string R.zv1[k].1.key,.int .i64 R.zv1[k].1.zvz,.int .i64 R.zv1[k].2.zvw,.int .i64 R.zv1[k].2.zvy] 190)).heap[W.heap.size+1]? = some (.cells #[.string R.zv1[k].1.key,.int .i64 R.zv1[k].1.zvz,.int .i64 R.zv1[k].2.zvw,.int .i64 R.zv1[k].2.zvy] 190)):=(show((W.alloc (.cells #[.string ⟨#[]⟩,.int .i64 0,.int .i64 0,.int .i64 0] 190)).alloc (.cells #[.string R.zv1[k].1.key,.int .i64 R.zv1[k].1.zvz,.int .i64 R.zv1[k].2.zvw,.int .i64 R.zv1[k].2.zvy] 190)).heap[W.heap.size+1]? = some (.cells #[.string R.zv1[k].1.key,.int .i64 R.zv1[k].1.zvz,.int .i64 R.zv1[k].2.zvw,.int .i64 R.zv1[k].2.zvy] 190) from by have:=heap_alloc_new (W.alloc (.cells #[.string ⟨#[]⟩,.int .i64 0,.int .i64 0,.int .i64 0] 190)) (.cells #[.string R.zv1[k].1.key,.int .i64 R.zv1[k].1.zvz,.int .i64 R.zv1[k].2.zvw,.int .i64 R.zv1[k].2.zvy] 190);simpa using this)
  go_enter Tryz.func119,Tryz.ntmps119
  go_upto_region 3 with fail
  clear c7 zb d0 d1 d2 d3;generalize (W.alloc (.cells #[.string ⟨#[]⟩,.int .i64 0,.int .i64 0,.int .i64 0] 190)).alloc (.cells #[.string R.zv1[k].1.key,.int .i64 R.zv1[k].1.zvz,.int .i64 R.zv1[k].2.zvw,.int .i64 R.zv1[k].2.zvy] 190)=W2 at *;have HR2:=za (HR.out.grown HG2.out);have c7:=HR2.out.c7
  go_wp2_with (at_builtin;refine xr (l:=[]) (m:=R.zv1.take k) _ rfl (.tmp 14) (.tmp 20) 49 rfl zeh oneP i0 _ 40 Tryz.underlying49 hi hz0 hz1 hz2 rfl (by decide) (by decide) rfl ?a1 rfl ?a2 ?a3 k ?a4 ?_)
  case a1=>exact World.ownsRow_nil _ _ _ _
  case a2=>exact zez zeh HR2.out.zv1 k (by omega) _
  case a3=>simp;omega
  case a4=>simp;omega
  intro p1 cap1 w1 ha1;have HA1:=za ha1;have e1:W2.grownBy w1 none:=ha1.2.1;have HR3:=za (HR2.out.grown e1);have B4:=(e1.block W.heap.size (Array.getElem?_eq_some_iff.1 HB4.out).1 (by simp)).trans HB4.out
  have B5:=(e1.block (W.heap.size+1) (Array.getElem?_eq_some_iff.1 HB5.out).1 (by simp)).trans HB5.out
  have H4:=za B4;have H5:=za B5;clear ha1 c7 B4 B5;have HE1:=za e1;clear e1;have c7:=HR3.out.c7;have hk1:(k:Int)+1≤(cap:Int):=by omega
  go_wp2_with (at_builtin;refine xr (l:=R.zv1.take k) (m:=R.zv1.drop (k+1)) _ rfl (.tmp 23) (.tmp 30) 49 rfl zeh oneP i0 _ 40 Tryz.underlying49 hi hz0 hz1 hz2 rfl (by decide) (by decide) rfl ?b1 rfl ?b2 ?b3 (R.zv1.length-1) ?b4 ?_)
  case b1=>exact HA1.out.1
  case b2=>exact zjv zeh HR3.out.zv1 (k+1) (by omega) _ (by omega) _ (by omega) _
  case b3=>simp;omega
  case b4=>simp;omega
  intro p2' cap2' w2 ha2;obtain⟨e2,en⟩:=zn0 HA1.out (zd _) ha2;have HE2:=za e2;have HEN:=za en;have HA2:=za ha2;have HR4:=za (HR2.out.grown e2);have B4:=(e2.block W.heap.size (Array.getElem?_eq_some_iff.1 HB4.out).1 (by simp)).trans HB4.out
  have B5:=(e2.block (W.heap.size+1) (Array.getElem?_eq_some_iff.1 HB5.out).1 (by simp)).trans HB5.out
  have c7'':=HR4.out.c7;have z7'':=HR4.out.free 7;have b40:w2.cell? ⟨W.heap.size,0,none⟩=some (.string ⟨#[]⟩):=(zh B4 0).trans rfl;have b41:w2.cell? ⟨W.heap.size,1,none⟩=some (.int .i64 0):=(zh B4 1).trans rfl;have b42:w2.cell? ⟨W.heap.size,2,none⟩=some (.int .i64 0):=(zh B4 2).trans rfl;have b43:w2.cell? ⟨W.heap.size,3,none⟩=some (.int .i64 0):=(zh B4 3).trans rfl;have z40:=yr B4 0;have z41:=yr B4 1;have z42:=yr B4 2;have z43:=yr B4 3;have b50:w2.cell? ⟨W.heap.size+1,0,none⟩=some (.string R.zv1[k].1.key):=(zh B5 0).trans rfl;have b51:w2.cell? ⟨W.heap.size+1,1,none⟩=some (.int .i64 R.zv1[k].1.zvz):=(zh B5 1).trans rfl;have b52:w2.cell? ⟨W.heap.size+1,2,none⟩=some (.int .i64 R.zv1[k].2.zvw):=(zh B5 2).trans rfl;have b53:w2.cell? ⟨W.heap.size+1,3,none⟩=some (.int .i64 R.zv1[k].2.zvy):=(zh B5 3).trans rfl;have n1:¬rb=W.heap.size:=by omega
  have n2:¬rb=W.heap.size+1:=by omega
  have n3:¬W.heap.size=rb:=by omega
  have n4:¬W.heap.size+1=rb:=by omega
  clear e2 en ha2 B4 B5 c7 hk1;go_wp2;refine bodyPost_ret (v:=Xm R.zv1[k].1 R.zv1[k].2) (by simp[Xm,results,Tryz.results119,go_sem, *]) rfl ⟨rfl,?_⟩
  have hA:=jy.side (w:=W2) HBS.out HR.out (by have:=HSZ.out;omega) rfl
  have hN:=RAt.newP (W0:=W2) (bs:=fun k=>bs k∧k≠W.heap.size) (zd _) hA HR2.out HE2.out HA2.out.1 HEN.out
  have ht:R.zv1.take k++R.zv1.drop (k+1)=R.zv1.eraseIdx k:=by rw[List.eraseIdx_eq_take_drop_succ]
  rw[ht] at hN;refine znq (b:=W.heap.size) ?_;refine Vy (Vy (Vy (Vy ⟨hN.1,Zp HG2.out hN.2⟩ (Nat.le_refl _) _ _) (Nat.le_refl _) _ _) (Nat.le_refl _) _ _) (Nat.le_refl _) _ _
end
theorem neq_id (a b:ID) (w:World):(binOp .neq 59 (.agg #[.string a.key,.int .i64 a.zvz]) (.agg #[.string b.key,.int .i64 b.zvz])).run Tryz.prog w = .ok (.bool (!decide (a=b))) w:=by
 obtain⟨a1,a2⟩:=a;obtain⟨b1,b2⟩:=b;simp[go_sem,qb]
 by_cases e1:a1=b1 <;> by_cases e2:a2=b2 <;> simp[e1,e2]
def zlv (h:ue):Value:=.agg #[.string h.id.key,.int .i64 h.id.zvz,.int .i64 h.node,.int .i64 h.zvx,.bool h.ref]
def Vj (x y:ue):Bool:=decide (y.id≠x.id) || decide (y.node≠x.node)
def xf {α:Type} (f:α→Bool) (l:List α) (k:Nat):List α:=(l.take k).filter f
theorem Uv {α:Type} (f:α→Bool) (l:List α):xf f l 0 = []:=by simp[xf]
theorem Uk {α:Type} (f:α→Bool) (l:List α) (k:Nat) (hk:k<l.length) (h:f l[k]=true):xf f l (k+1)=xf f l k ++ [l[k]]:=by
 unfold xf;rw[List.take_succ_eq_append_getElem hk,List.filter_append];simp[h]
theorem Uu {α:Type} (f:α→Bool) (l:List α) (k:Nat) (hk:k<l.length) (h:f l[k]=false):xf f l (k+1)=xf f l k:=by
 unfold xf;rw[List.take_succ_eq_append_getElem hk,List.filter_append];simp[h]
theorem Jj {α:Type} (f:α→Bool) (l:List α) (k:Nat) (hk:l.length≤k):xf f l k=l.filter f:=by
 unfold xf;rw[List.take_of_length_le hk]
theorem Jk {α:Type} (f:α→Bool) (l:List α) (k:Nat):(xf f l k).length≤l.length:=by
 unfold xf
 exact Nat.le_trans (List.length_filter_le _ _) (by rw[List.length_take];omega)
structure xc {α:Type} (W:World) (E:TypeId) (sz:Nat) (enc:α→List Value) (v:Value) (l:List α) (w:World):Prop where
 grown:W.grownBy w none
 row:uu w E sz enc v l
 own:∀g,v.ownBlock=some g→W.heap.size≤g
theorem xc.start {α:Type} (W:World) (E:TypeId) (sz:Nat) (enc:α→List Value):xc W E sz enc (.slice none 0 0) ([]:List α) W:=⟨zd _,World.ownsRow_nil _ _ _ _,fun g h=>by cases h⟩
theorem xc.more {α:Type} {W w w':World} {E:TypeId} {sz:Nat} {enc:α→List Value} {v:Value} {l:List α} (h:xc W E sz enc v l w) (hg:w.grownBy w' none):xc W E sz enc v l w':=
 ⟨ze h.grown hg,h.row.grown hg (by simp),h.own⟩
theorem xc.app {α:Type} {W wx w1:World} {E:TypeId} {sz:Nat} {enc:α→List Value} {v v':Value} {l l':List α} (h:xc W E sz enc v l wx) (ha:Uc wx E sz enc v l' v' w1):xc W E sz enc v' l' w1:=by
 refine⟨jk h.grown ha.2.1 h.own,ha.1,fun g hg=>?_⟩
 rcases ha.2.2 with e|e
 ·exact h.own g (e ▸ hg)
 ·rw[e] at hg;cases hg;exact h.grown.size
section
variable {bs : Nat → Prop} {W : World} {rb : Nat} {R : yp}
set_option maxRecDepth 100000 in
theorem Un (h:RAt bs W rb R) (hbs:∀k,W.heap.size≤k→bs k) (x:ue) (hl:R.holds.length≤100000000):Calls Tryz.prog 116 #[.pointer (some ⟨rb,0,none⟩),zlv x] W fun e w'=>e = .returned (.tuple #[])∧RAt bs w' rb (yg R x)∧yc bs W w':=by
 obtain⟨vL,vC,vV,vP,vH,h,hb1,hb2,hb3,hb4,hb5,hb6⟩:=h;obtain⟨i0,hi,hz0,hz1,hz2⟩:=info_parts infoH;obtain⟨p,cap,rfl,hcap,hlc⟩:=h.holds.form;have HBS:=za (show jy bs W rb vL vC vV vP (.slice p R.holds.length cap) from ⟨hb1,hb2,hb3,hb4,hb5,hb6,hbs⟩)
 clear hb1 hb2 hb3 hb4 hb5 hb6 hbs;have HR:=za (h.grown (zc W (.cells #[.string x.id.key,.int .i64 x.id.zvz,.int .i64 x.node,.int .i64 x.zvx,.bool x.ref] 197) none));have HB:=za (heap_alloc_new W (.cells #[.string x.id.key,.int .i64 x.id.zvz,.int .i64 x.node,.int .i64 x.zvx,.bool x.ref] 197));have HG:=za (zc W (.cells #[.string x.id.key,.int .i64 x.id.zvz,.int .i64 x.node,.int .i64 x.zvx,.bool x.ref] 197) none);clear h;simp only[zlv]
 go_enter Tryz.func116,Tryz.ntmps116
 go_wp2;generalize W.alloc (.cells #[.string x.id.key,.int .i64 x.id.zvz,.int .i64 x.node,.int .i64 x.zvx,.bool x.ref] 197)=W2 at *
 go_loopw [4,5] (fun lv i wr=>∃k:Nat,k≤R.holds.length∧i = .int .i64 k∧xc W2 197 5 za7 lv (xf (Vj x) R.holds k) wr) (fun _ i _=>R.holds.length-(intOf i).toNat)
 case atStart=>exact⟨0,Nat.zero_le _,rfl,by rw[Uv];exact xc.start _ _ _ _⟩
 case round=>
  obtain⟨k,hk,rfl,hgr⟩:=hrel;have hg2:=hgr.grown;have hR:=HR.out.grown hg2;have hkl:=Jk (Vj x) R.holds k;obtain⟨pl,cl,rfl,-,-⟩:=hgr.row.form;have HGR:=za hgr;have c8:=hR.c8;have z8:=hR.free 8;have hrb:=hR.lt;have b:=(hg2.block W.heap.size (Array.getElem?_eq_some_iff.1 HB.out).1 (by simp)).trans HB.out
  have b0:wr.cell? ⟨W.heap.size,0,none⟩=some (.string x.id.key):=(zh b 0).trans rfl;have b1:wr.cell? ⟨W.heap.size,1,none⟩=some (.int .i64 x.id.zvz):=(zh b 1).trans rfl;have b2:wr.cell? ⟨W.heap.size,2,none⟩=some (.int .i64 x.node):=(zh b 2).trans rfl;have b3:wr.cell? ⟨W.heap.size,3,none⟩=some (.int .i64 x.zvx):=(zh b 3).trans rfl;have b4:wr.cell? ⟨W.heap.size,4,none⟩=some (.bool x.ref):=(zh b 4).trans rfl;have hwl:W.heap.size<wr.heap.size:=(Array.getElem?_eq_some_iff.1 b).1;clear b hgr hg2
  by_cases hlt:k<R.holds.length
  ·obtain⟨g,cap',hv',hc,hfz⟩:=(hR.holds.at zkk).resolve_left (fun e=>by rw[e] at hlt;simp at hlt)
   injection hv' with hv1 hv2 hv3
   subst hv1 hv3;have e0:wr.cell? ⟨g,k*5,none⟩=some (.string R.holds[k].id.key):=hc k hlt 0 _ rfl;have e1:wr.cell? ⟨g,k*5+1,none⟩=some (.int .i64 R.holds[k].id.zvz):=hc k hlt 1 _ rfl;have e2:wr.cell? ⟨g,k*5+2,none⟩=some (.int .i64 R.holds[k].node):=hc k hlt 2 _ rfl;have e3:wr.cell? ⟨g,k*5+3,none⟩=some (.int .i64 R.holds[k].zvx):=hc k hlt 3 _ rfl;have e4:wr.cell? ⟨g,k*5+4,none⟩=some (.bool R.holds[k].ref):=hc k hlt 4 _ rfl;have HH:=za hR;have heq:=neq_id R.holds[k].id x.id;clear hR hv2 hc hfz
   by_cases hi2:R.holds[k].id=x.id∧R.holds[k].node=x.node
   ·have HK:Hid (xf (Vj x) R.holds (k+1)=xf (Vj x) R.holds k):=(show _=_ from Uu _ _ _ hlt (by simp[Vj,hi2.1,hi2.2]))
    rw[show(!decide (R.holds[k].id=x.id))=false from by simp[hi2.1]] at heq
    have hd:(R.holds[k].node != x.node)=false:=by simp[hi2.2]
    clear hi2;go_wp2
    go_quiet (fail)
    go_wp2
    go_roundw
    case rel=>exact⟨k+1,by omega,by go_num,by rw[HK.out];exact HGR.out.more (zj _ _)⟩
    case measure=>simp[intOf];omega
   ·have HK:Hid (xf (Vj x) R.holds (k+1)=xf (Vj x) R.holds k ++ [R.holds[k]]):=(show _=_ from Uk _ _ _ hlt (by
     by_cases h1:R.holds[k].id=x.id
     ·have h2:R.holds[k].node≠x.node:=fun e=>hi2 ⟨h1,e⟩
      simp[Vj,h2]
     ·simp[Vj,h1]))
    by_cases h1:R.holds[k].id=x.id
    ·have h2:R.holds[k].node≠x.node:=fun e=>hi2 ⟨h1,e⟩
     rw[show(!decide (R.holds[k].id=x.id))=false from by simp[h1]] at heq
     have hd:(R.holds[k].node != x.node)=true:=by simp[h2]
     clear hi2 h1 h2;go_wp2
     go_quiet (fail)
     go_wp2_with (at_builtin;refine xr (l:=xf (Vj x) R.holds k) (m:=[R.holds[k]]) _ rfl (.tmp 39) (.tmp 47) 50 rfl zkk oneH i0 _ 48 Tryz.underlying50 hi hz0 hz1 hz2 rfl (by decide) (by decide) rfl ?a1 rfl ?a2 ?a3 _ rfl ?_)
     case a1=>exact(HGR.out.more (by repeat (first|exact zd _|exact zj _ _|refine zg ?_ _|refine zf ?_))).row
     case a2=>exact Zw R.holds[k] (heap_alloc_new _ _)
     case a3=>simp only[List.length_cons,List.length_nil];omega
     intro p' c' w1 ha;have HA:=za (xc.app (xc.more HGR.out (by repeat (first|exact zd _|exact zj _ _|refine zg ?_ _|refine zf ?_))) ha)
     clear ha;go_wp2
     go_roundw
     case rel=>exact⟨k+1,by omega,by go_num,by rw[HK.out];exact HA.out⟩
     case measure=>simp[intOf];omega
    ·rw[show(!decide (R.holds[k].id=x.id))=true from by simp[h1]] at heq
     clear hi2 h1;go_wp2
     go_quiet (fail)
     go_wp2_with (at_builtin;refine xr (l:=xf (Vj x) R.holds k) (m:=[R.holds[k]]) _ rfl (.tmp 39) (.tmp 47) 50 rfl zkk oneH i0 _ 48 Tryz.underlying50 hi hz0 hz1 hz2 rfl (by decide) (by decide) rfl ?b1 rfl ?b2 ?b3 _ rfl ?_)
     case b1=>exact(HGR.out.more (by repeat (first|exact zd _|exact zj _ _|refine zg ?_ _|refine zf ?_))).row
     case b2=>exact Zw R.holds[k] (heap_alloc_new _ _)
     case b3=>simp only[List.length_cons,List.length_nil];omega
     intro p' c' w1 ha;have HA:=za (xc.app (xc.more HGR.out (by repeat (first|exact zd _|exact zj _ _|refine zg ?_ _|refine zf ?_))) ha)
     clear ha;go_wp2
     go_roundw
     case rel=>exact⟨k+1,by omega,by go_num,by rw[HK.out];exact HA.out⟩
     case measure=>simp[intOf];omega
  ·have hge:R.holds.length≤k:=by omega
   have HK:Hid (xf (Vj x) R.holds k ++ [x]=(yg R x).holds):=(show _=_ from by rw[Jj _ _ _ hge];rfl)
   clear hR hge
   go_wp2_with (at_builtin;refine xr (l:=xf (Vj x) R.holds k) (m:=[x]) _ rfl (.tmp 50) (.tmp 52) 50 rfl zkk oneH i0 _ 48 Tryz.underlying50 hi hz0 hz1 hz2 rfl (by decide) (by decide) rfl ?c1 rfl ?c2 ?c3 _ rfl ?_)
   case c1=>exact(HGR.out.more (by repeat (first|exact zd _|exact zj _ _|refine zg ?_ _|refine zf ?_))).row
   case c2=>exact Zw x (heap_alloc_new _ _)
   case c3=>simp only[List.length_cons,List.length_nil];omega
   intro p' c' w1 ha;have hq:=xc.app (xc.more HGR.out (by repeat (first|exact zd _|exact zj _ _|refine zg ?_ _|refine zf ?_))) ha
   have HA:=za hq;have d8:=(HR.out.grown hq.grown).c8;have y8:=(HR.out.grown hq.grown).free 8;clear ha hq;go_wp2
   first|go_end0|refine bodyPost_ret (results_none rfl _ _ _) rfl ?_
   refine⟨rfl,?_⟩;have hN:=RAt.newH (W0:=W) HG.out HBS.out HR.out HA.out.grown HA.out.row (fun g hg=>Nat.le_trans HG.out.size (HA.out.own g hg))
   rw[HK.out] at hN
   exact hN
end
end Go.Proofs.YtjfelfjobeeenaaGreat
