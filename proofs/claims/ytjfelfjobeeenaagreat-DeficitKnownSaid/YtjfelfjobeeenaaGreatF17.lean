/- The document's table: ends: the walk. Conditions: a table that lies in memory, a place in its row. The document's table: says: the walk. Conditions: a table that lies in memory. -/
import Derived.Test.YtjfelfjobeeenaaGreatF16
set_option linter.unusedSimpArgs false
set_option linter.unusedVariables false
namespace Go.Sf
theorem alloc_oldG16 (w:World) (o:Obj) {r:Nat} (h:r<w.heap.size):(w.alloc o).heap[r]? = w.heap[r]?:=by
 rw[show(w.alloc o).heap=w.heap.push o from rfl,Array.getElem?_push,if_neg (Nat.ne_of_lt h)]
end Go.Sf
namespace Go.Proofs.YtjfelfjobeeenaaGreat
open Go.RowKit Go.Sf Go.Shelf
section
variable {α : Type} {W : World} {E : TypeId} {sz : Nat} {enc : α → List Value} {l : List α} {g cap : Nat}
theorem flat_take (he:∀x,(enc x).length=sz):∀(l:List α) (k:Nat),(l.take k).flatMap enc=(l.flatMap enc).take (k*sz)
 | [],k=>by simp
 | x :: r,0=>by simp
 | x :: r,k+1=>by
  have e:(k+1)*sz=(enc x).length+k*sz:=by rw[he,Nat.succ_mul];omega
  simp only[List.take_succ_cons,List.flatMap_cons]
  rw[e,List.take_length_add_append,flat_take he r k]
theorem flat_drop (he:∀x,(enc x).length=sz):∀(l:List α) (k:Nat),(l.drop k).flatMap enc=(l.flatMap enc).drop (k*sz)
 | [],k=>by simp
 | x :: r,0=>by simp
 | x :: r,k+1=>by
  have e:(k+1)*sz=(enc x).length+k*sz:=by rw[he,Nat.succ_mul];omega
  simp only[List.drop_succ_cons,List.flatMap_cons]
  rw[e,List.drop_length_add_append,flat_drop he r k]
theorem SRow.cellsAt (h:SRow W E sz enc (.slice (some ⟨g,0,none⟩) l.length cap) l) (j:Nat) (u:Value) (hu:(l.flatMap enc)[j]? = some u):W.cell? ⟨g,j,none⟩=some u:=by
 have hj:j<l.length*sz:=by
  have h1:=(List.getElem?_eq_some_iff.1 hu).1
  have h2:=h.1
  omega
 rw[World.ownsRow.cellAt h j hj]
 exact hu
theorem yrow_take (he:∀x,(enc x).length=sz) (h:SRow W E sz enc (.slice (some ⟨g,0,none⟩) l.length cap) l) (k:Nat) (hk:k≤l.length) (c:Nat):YRow W enc (.slice (some ⟨g,0,none⟩) k c) (l.take k):=by
 refine⟨some ⟨g,0,none⟩,c,by rw[List.length_take,Nat.min_eq_left hk],Or.inr ⟨_,rfl,fun j u hu=>?_⟩⟩
 rw[flat_take he] at hu
 have hj:j<k*sz:=by
  rcases Nat.lt_or_ge j (k*sz) with h|h
  ·exact h
  ·rw[List.getElem?_eq_none (by rw[List.length_take];omega)] at hu;cases hu
 rw[List.getElem?_take_of_lt hj] at hu
 rw[Addr.add_lit]
 simpa using h.cellsAt j u hu
theorem yrow_drop (he:∀x,(enc x).length=sz) (h:SRow W E sz enc (.slice (some ⟨g,0,none⟩) l.length cap) l) (k:Nat) (hk:k≤l.length) (n:Nat) (hn:n=l.length-k) (o:Nat) (ho:o=k*sz) (c:Nat):YRow W enc (.slice (some ⟨g,o,none⟩) n c) (l.drop k):=by
 subst ho hn
 refine⟨some ⟨g,k*sz,none⟩,c,by rw[List.length_drop],Or.inr ⟨_,rfl,fun j u hu=>?_⟩⟩
 rw[flat_drop he,List.getElem?_drop] at hu
 rw[Addr.add_lit]
 exact h.cellsAt _ u hu
theorem yrow_none (l:List α) (k:Nat) (hk:l.drop k = []) (n:Nat) (hn:n=0) (p:Option Addr) (c:Nat):YRow W enc (.slice p n c) (l.drop k):=by
 subst hn
 exact⟨p,c,by rw[hk];rfl,Or.inl hk⟩
end
def encRPend (i:ID) (p:Pend):Value:=.agg #[.string i.key,.int .i64 i.ver,.int .i64 p.client,.int .i64 p.req]
theorem two_apps {α:Type} {W w1 w2 wx:World} {E:TypeId} {sz:Nat} {enc:α→List Value} {v1 v2:Value} {l1 l2:List α} (h1:Apped W E sz enc (.slice none 0 0) l1 v1 w1) (hg:w1.grownBy wx none) (h2:Apped wx E sz enc v1 l2 v2 w2) :
  W.grownBy w2 none∧∀g,v2.ownBlock=some g→W.heap.size≤g:=by
 have e1:W.grownBy w1 none:=h1.2.1
 have hv1:∀g,v1.ownBlock=some g→W.heap.size≤g:=fun g hg2=>by
  rcases h1.2.2 with e|e
  ·rw[e] at hg2;cases hg2
  ·rw[e] at hg2;cases hg2;exact Nat.le_refl _
 refine⟨grown_own (grown_trans e1 hg) h2.2.1 hv1,fun g hg2=>?_⟩
 rcases h2.2.2 with e|e
 ·exact hv1 g (e ▸ hg2)
 ·rw[e] at hg2;cases hg2;exact Nat.le_trans e1.size hg.size
theorem eraseP_at {α:Type} {f:α→Bool}:∀{l:List α} {k:Nat},NoneB f l k→(hk:k<l.length)→f l[k]=true→l.eraseP f=l.eraseIdx k
 | x :: r,0,h,hk,hf=>by simp only[List.getElem_cons_zero] at hf;rw[List.eraseP_cons_of_pos hf];rfl
 | x :: r,k+1,h,hk,hf=>by
  have h0:=h 0 (by simp) (by omega)
  simp only[List.getElem_cons_zero] at h0
  rw[List.eraseP_cons_of_neg (by simp[h0]),List.eraseIdx_cons_succ,eraseP_at (k:=k) (fun j hj hjk=>by have:=h (j+1) (by simpa using hj) (by omega);simpa using this) (by simpa using hk) (by simpa using hf)]
section
variable {bs : Nat → Prop} {W w : World} {rb b : Nat} {R : RTab}
theorem side_set (h:RAt (fun k=>bs k∧k≠b) w rb R∧Turn (fun k=>bs k∧k≠b) W w) (hb:W.heap.size≤b) (i:Nat) (u:Value):RAt (fun k=>bs k∧k≠b) (w.setCell ⟨b,i,none⟩ u) rb R∧Turn (fun k=>bs k∧k≠b) W (w.setCell ⟨b,i,none⟩ u):=by
 refine⟨h.1.turn (cs:=bs) fun k hk hb2=>heap_set_ne w _ _ k hb2.2,⟨h.2.os,h.2.tape,h.2.output,Nat.le_trans h.2.size (by simp[World.setCell]),fun k hk hn=>?_⟩⟩
 exact(heap_set_ne w _ _ k (by show k≠b;omega)).trans (h.2.block k hk hn)
theorem side_end (h:RAt (fun k=>bs k∧k≠b) w rb R∧Turn (fun k=>bs k∧k≠b) W w):RAt bs w rb R∧Turn bs W w:=
 ⟨h.1.mono fun k _ hk=>hk.1,h.2.mono fun k hk=>hk.1⟩
theorem Among.side {vL vC vV vP vH:Value} {R:RTab} (h:Among bs W rb vL vC vV vP vH) (hm:RMem W rb R vL vC vV vP vH) (hg:W.heap.size<w.heap.size) (hb:b=W.heap.size):Among (fun k=>bs k∧k≠b) w rb vL vC vV vP vH:=by
 subst hb
 obtain⟨a0,aL,aC,aV,aP,aH,aN⟩:=h
 exact⟨⟨a0,by have:=hm.lt;omega⟩,fun g hg2=>⟨aL g hg2,by have:=hm.lives.lt hg2;omega⟩,fun g hg2=>⟨aC g hg2,by have:=hm.calls.lt hg2;omega⟩,fun g hg2=>⟨aV g hg2,by have:=hm.vals.lt hg2;omega⟩,fun g hg2=>⟨aP g hg2,by have:=hm.pends.lt hg2;omega⟩,fun g hg2=>⟨aH g hg2,by have:=hm.holds.lt hg2;omega⟩,fun k hk=>⟨aN k (by omega),by omega⟩⟩
end
section
variable {bs : Nat → Prop} {W : World} {rb : Nat} {R : RTab}
set_option maxHeartbeats 4000000 in
set_option maxRecDepth 100000 in
theorem rends_any (h:RAt bs W rb R) (hbs:∀k,W.heap.size≤k→bs k) (k:Nat) (hk:k<R.pends.length) (hl:R.pends.length≤100000000):Calls Tryz.prog 119 #[.pointer (some ⟨rb,0,none⟩),.int .i64 k] W fun e w'=>e = .returned (encRPend R.pends[k].1 R.pends[k].2)∧RAt bs w' rb { R with pends:=R.pends.eraseIdx k }∧Turn bs W w':=by
 obtain⟨vL,vC,vV,vP,vH,h,hb1,hb2,hb3,hb4,hb5,hb6⟩:=h
 obtain⟨i0,hi,hz0,hz1,hz2⟩:=info_parts infoP
 obtain⟨g,cap,rfl,hc,hfz⟩:=(h.pends.at lenP).resolve_left (fun e=>by rw[e] at hk;simp at hk)
 obtain⟨p2,cap2,e2,hcap,hlc⟩:=h.pends.form
 injection e2 with e21 e22 e23
 subst e23
 have HBS:Hid (Among bs W rb vL vC vV (.slice (some ⟨g,0,none⟩) R.pends.length cap) vH):=(show Among bs W rb vL vC vV (.slice (some ⟨g,0,none⟩) R.pends.length cap) vH from ⟨hb1,hb2,hb3,hb4,hb5,hb6,hbs⟩)
 have c7:=h.c7
 have zb:=h.free 7
 have hrb:=h.lt
 have d0:W.cell? ⟨g,k*4,none⟩=some (.string R.pends[k].1.key):=hc k hk 0 _ rfl
 have d1:W.cell? ⟨g,k*4+1,none⟩=some (.int .i64 R.pends[k].1.ver):=hc k hk 1 _ rfl
 have d2:W.cell? ⟨g,k*4+2,none⟩=some (.int .i64 R.pends[k].2.client):=hc k hk 2 _ rfl
 have d3:W.cell? ⟨g,k*4+3,none⟩=some (.int .i64 R.pends[k].2.req):=hc k hk 3 _ rfl
 have hgl:g<W.heap.size:=cell_lt d0
 have HR:=Lib.hid h
 have hcap2:k<cap:=by omega
 clear h hb1 hb2 hb3 hb4 hb5 hb6 hbs hc hfz e21 e22
 by_cases hce:cap=k+1
 ·subst hce
  have HG2:Hid (W.grownBy ((W.alloc (.cells #[.string ⟨#[]⟩,.int .i64 0,.int .i64 0,.int .i64 0] 190)).alloc (.cells #[.string R.pends[k].1.key,.int .i64 R.pends[k].1.ver,.int .i64 R.pends[k].2.client,.int .i64 R.pends[k].2.req] 190)) none):=(show W.grownBy ((W.alloc (.cells #[.string ⟨#[]⟩,.int .i64 0,.int .i64 0,.int .i64 0] 190)).alloc (.cells #[.string R.pends[k].1.key,.int .i64 R.pends[k].1.ver,.int .i64 R.pends[k].2.client,.int .i64 R.pends[k].2.req] 190)) none from grown_alloc (grown_alloc (grown_refl _) _) _)
  have HSZ:Hid (((W.alloc (.cells #[.string ⟨#[]⟩,.int .i64 0,.int .i64 0,.int .i64 0] 190)).alloc (.cells #[.string R.pends[k].1.key,.int .i64 R.pends[k].1.ver,.int .i64 R.pends[k].2.client,.int .i64 R.pends[k].2.req] 190)).heap.size=W.heap.size+2):=(show((W.alloc (.cells #[.string ⟨#[]⟩,.int .i64 0,.int .i64 0,.int .i64 0] 190)).alloc (.cells #[.string R.pends[k].1.key,.int .i64 R.pends[k].1.ver,.int .i64 R.pends[k].2.client,.int .i64 R.pends[k].2.req] 190)).heap.size=W.heap.size+2 from by simp)
  have HB4:Hid (((W.alloc (.cells #[.string ⟨#[]⟩,.int .i64 0,.int .i64 0,.int .i64 0] 190)).alloc (.cells #[.string R.pends[k].1.key,.int .i64 R.pends[k].1.ver,.int .i64 R.pends[k].2.client,.int .i64 R.pends[k].2.req] 190)).heap[W.heap.size]? = some (.cells #[.string ⟨#[]⟩,.int .i64 0,.int .i64 0,.int .i64 0] 190)):=(show((W.alloc (.cells #[.string ⟨#[]⟩,.int .i64 0,.int .i64 0,.int .i64 0] 190)).alloc (.cells #[.string R.pends[k].1.key,.int .i64 R.pends[k].1.ver,.int .i64 R.pends[k].2.client,.int .i64 R.pends[k].2.req] 190)).heap[W.heap.size]? = some (.cells #[.string ⟨#[]⟩,.int .i64 0,.int .i64 0,.int .i64 0] 190) from (alloc_oldG16 _ _ (by simp)).trans (heap_alloc_new _ _))
  have HB5:Hid (((W.alloc (.cells #[.string ⟨#[]⟩,.int .i64 0,.int .i64 0,.int .i64 0] 190)).alloc (.cells #[.string R.pends[k].1.key,.int .i64 R.pends[k].1.ver,.int .i64 R.pends[k].2.client,.int .i64 R.pends[k].2.req] 190)).heap[W.heap.size+1]? = some (.cells #[.string R.pends[k].1.key,.int .i64 R.pends[k].1.ver,.int .i64 R.pends[k].2.client,.int .i64 R.pends[k].2.req] 190)):=(show((W.alloc (.cells #[.string ⟨#[]⟩,.int .i64 0,.int .i64 0,.int .i64 0] 190)).alloc (.cells #[.string R.pends[k].1.key,.int .i64 R.pends[k].1.ver,.int .i64 R.pends[k].2.client,.int .i64 R.pends[k].2.req] 190)).heap[W.heap.size+1]? = some (.cells #[.string R.pends[k].1.key,.int .i64 R.pends[k].1.ver,.int .i64 R.pends[k].2.client,.int .i64 R.pends[k].2.req] 190) from by have:=heap_alloc_new (W.alloc (.cells #[.string ⟨#[]⟩,.int .i64 0,.int .i64 0,.int .i64 0] 190)) (.cells #[.string R.pends[k].1.key,.int .i64 R.pends[k].1.ver,.int .i64 R.pends[k].2.client,.int .i64 R.pends[k].2.req] 190);simpa using this)
  go_enter Tryz.func119,Tryz.ntmps119
  go_upto_region 3 with fail
  clear c7 zb d0 d1 d2 d3
  generalize (W.alloc (.cells #[.string ⟨#[]⟩,.int .i64 0,.int .i64 0,.int .i64 0] 190)).alloc (.cells #[.string R.pends[k].1.key,.int .i64 R.pends[k].1.ver,.int .i64 R.pends[k].2.client,.int .i64 R.pends[k].2.req] 190)=W2 at *
  have HR2:=Lib.hid (HR.out.grown HG2.out)
  have c7:=HR2.out.c7
  go_wp2_with (at_builtin;refine wpList_sapp (l:=[]) (m:=R.pends.take k) _ rfl (.tmp 14) (.tmp 20) 49 rfl lenP oneP i0 _ 40 Tryz.underlying49 hi hz0 hz1 hz2 rfl (by decide) (by decide) rfl ?a1 rfl ?a2 ?a3 k ?a4 ?_)
  case a1=>exact World.ownsRow_nil _ _ _ _
  case a2=>exact yrow_take lenP HR2.out.pends k (by omega) _
  case a3=>simp;omega
  case a4=>simp;omega
  intro p1 cap1 w1 ha1
  have HA1:=Lib.hid ha1
  have e1:W2.grownBy w1 none:=ha1.2.1
  have HR3:=Lib.hid (HR2.out.grown e1)
  have B4:=(e1.block W.heap.size (Array.getElem?_eq_some_iff.1 HB4.out).1 (by simp)).trans HB4.out
  have B5:=(e1.block (W.heap.size+1) (Array.getElem?_eq_some_iff.1 HB5.out).1 (by simp)).trans HB5.out
  have H4:=Lib.hid B4
  have H5:=Lib.hid B5
  clear ha1 c7 B4 B5
  have HE1:=Lib.hid e1
  clear e1
  have c7:=HR3.out.c7
  have hk1:(k:Int)+1≤((k+1:Nat):Int):=by omega
  go_wp2_with (at_builtin;refine wpList_sapp (l:=R.pends.take k) (m:=R.pends.drop (k+1)) _ rfl (.tmp 23) (.tmp 30) 49 rfl lenP oneP i0 _ 40 Tryz.underlying49 hi hz0 hz1 hz2 rfl (by decide) (by decide) rfl ?b1 rfl ?b2 ?b3 (R.pends.length-1) ?b4 ?_)
  case b1=>exact HA1.out.1
  case b2=>exact yrow_none R.pends (k+1) (List.drop_eq_nil_of_le (by omega)) _ (by omega) _ _
  case b3=>simp;omega
  case b4=>simp;omega
  intro p2' cap2' w2 ha2
  obtain⟨e2,en⟩:=two_apps HA1.out (grown_refl _) ha2
  have HE2:=Lib.hid e2
  have HEN:=Lib.hid en
  have HA2:=Lib.hid ha2
  have HR4:=Lib.hid (HR2.out.grown e2)
  have B4:=(e2.block W.heap.size (Array.getElem?_eq_some_iff.1 HB4.out).1 (by simp)).trans HB4.out
  have B5:=(e2.block (W.heap.size+1) (Array.getElem?_eq_some_iff.1 HB5.out).1 (by simp)).trans HB5.out
  have c7'':=HR4.out.c7
  have z7'':=HR4.out.free 7
  have b40:w2.cell? ⟨W.heap.size,0,none⟩=some (.string ⟨#[]⟩):=(cell_block B4 0).trans rfl
  have b41:w2.cell? ⟨W.heap.size,1,none⟩=some (.int .i64 0):=(cell_block B4 1).trans rfl
  have b42:w2.cell? ⟨W.heap.size,2,none⟩=some (.int .i64 0):=(cell_block B4 2).trans rfl
  have b43:w2.cell? ⟨W.heap.size,3,none⟩=some (.int .i64 0):=(cell_block B4 3).trans rfl
  have z40:=free_block B4 0
  have z41:=free_block B4 1
  have z42:=free_block B4 2
  have z43:=free_block B4 3
  have b50:w2.cell? ⟨W.heap.size+1,0,none⟩=some (.string R.pends[k].1.key):=(cell_block B5 0).trans rfl
  have b51:w2.cell? ⟨W.heap.size+1,1,none⟩=some (.int .i64 R.pends[k].1.ver):=(cell_block B5 1).trans rfl
  have b52:w2.cell? ⟨W.heap.size+1,2,none⟩=some (.int .i64 R.pends[k].2.client):=(cell_block B5 2).trans rfl
  have b53:w2.cell? ⟨W.heap.size+1,3,none⟩=some (.int .i64 R.pends[k].2.req):=(cell_block B5 3).trans rfl
  have n1:¬rb=W.heap.size:=by omega
  have n2:¬rb=W.heap.size+1:=by omega
  have n3:¬W.heap.size=rb:=by omega
  have n4:¬W.heap.size+1=rb:=by omega
  clear e2 en ha2 B4 B5 c7 hk1
  go_wp2
  refine bodyPost_ret (v:=encRPend R.pends[k].1 R.pends[k].2) (by simp[encRPend,results,Tryz.results119,go_sem, *]) rfl ⟨rfl,?_⟩
  have hA:=Among.side (w:=W2) HBS.out HR.out (by have:=HSZ.out;omega) rfl
  have hN:=RAt.newP (W0:=W2) (bs:=fun k=>bs k∧k≠W.heap.size) (grown_refl _) hA HR2.out HE2.out HA2.out.1 HEN.out
  have ht:R.pends.take k++R.pends.drop (k+1)=R.pends.eraseIdx k:=by rw[List.eraseIdx_eq_take_drop_succ]
  rw[ht] at hN
  refine side_end (b:=W.heap.size) ?_
  refine side_set (side_set (side_set (side_set ⟨hN.1,turn_then HG2.out hN.2⟩ (Nat.le_refl _) _ _) (Nat.le_refl _) _ _) (Nat.le_refl _) _ _) (Nat.le_refl _) _ _
 ·skip
  have HG2:Hid (W.grownBy ((W.alloc (.cells #[.string ⟨#[]⟩,.int .i64 0,.int .i64 0,.int .i64 0] 190)).alloc (.cells #[.string R.pends[k].1.key,.int .i64 R.pends[k].1.ver,.int .i64 R.pends[k].2.client,.int .i64 R.pends[k].2.req] 190)) none):=(show W.grownBy ((W.alloc (.cells #[.string ⟨#[]⟩,.int .i64 0,.int .i64 0,.int .i64 0] 190)).alloc (.cells #[.string R.pends[k].1.key,.int .i64 R.pends[k].1.ver,.int .i64 R.pends[k].2.client,.int .i64 R.pends[k].2.req] 190)) none from grown_alloc (grown_alloc (grown_refl _) _) _)
  have HSZ:Hid (((W.alloc (.cells #[.string ⟨#[]⟩,.int .i64 0,.int .i64 0,.int .i64 0] 190)).alloc (.cells #[.string R.pends[k].1.key,.int .i64 R.pends[k].1.ver,.int .i64 R.pends[k].2.client,.int .i64 R.pends[k].2.req] 190)).heap.size=W.heap.size+2):=(show((W.alloc (.cells #[.string ⟨#[]⟩,.int .i64 0,.int .i64 0,.int .i64 0] 190)).alloc (.cells #[.string R.pends[k].1.key,.int .i64 R.pends[k].1.ver,.int .i64 R.pends[k].2.client,.int .i64 R.pends[k].2.req] 190)).heap.size=W.heap.size+2 from by simp)
  have HB4:Hid (((W.alloc (.cells #[.string ⟨#[]⟩,.int .i64 0,.int .i64 0,.int .i64 0] 190)).alloc (.cells #[.string R.pends[k].1.key,.int .i64 R.pends[k].1.ver,.int .i64 R.pends[k].2.client,.int .i64 R.pends[k].2.req] 190)).heap[W.heap.size]? = some (.cells #[.string ⟨#[]⟩,.int .i64 0,.int .i64 0,.int .i64 0] 190)):=(show((W.alloc (.cells #[.string ⟨#[]⟩,.int .i64 0,.int .i64 0,.int .i64 0] 190)).alloc (.cells #[.string R.pends[k].1.key,.int .i64 R.pends[k].1.ver,.int .i64 R.pends[k].2.client,.int .i64 R.pends[k].2.req] 190)).heap[W.heap.size]? = some (.cells #[.string ⟨#[]⟩,.int .i64 0,.int .i64 0,.int .i64 0] 190) from (alloc_oldG16 _ _ (by simp)).trans (heap_alloc_new _ _))
  have HB5:Hid (((W.alloc (.cells #[.string ⟨#[]⟩,.int .i64 0,.int .i64 0,.int .i64 0] 190)).alloc (.cells #[.string R.pends[k].1.key,.int .i64 R.pends[k].1.ver,.int .i64 R.pends[k].2.client,.int .i64 R.pends[k].2.req] 190)).heap[W.heap.size+1]? = some (.cells #[.string R.pends[k].1.key,.int .i64 R.pends[k].1.ver,.int .i64 R.pends[k].2.client,.int .i64 R.pends[k].2.req] 190)):=(show((W.alloc (.cells #[.string ⟨#[]⟩,.int .i64 0,.int .i64 0,.int .i64 0] 190)).alloc (.cells #[.string R.pends[k].1.key,.int .i64 R.pends[k].1.ver,.int .i64 R.pends[k].2.client,.int .i64 R.pends[k].2.req] 190)).heap[W.heap.size+1]? = some (.cells #[.string R.pends[k].1.key,.int .i64 R.pends[k].1.ver,.int .i64 R.pends[k].2.client,.int .i64 R.pends[k].2.req] 190) from by have:=heap_alloc_new (W.alloc (.cells #[.string ⟨#[]⟩,.int .i64 0,.int .i64 0,.int .i64 0] 190)) (.cells #[.string R.pends[k].1.key,.int .i64 R.pends[k].1.ver,.int .i64 R.pends[k].2.client,.int .i64 R.pends[k].2.req] 190);simpa using this)
  go_enter Tryz.func119,Tryz.ntmps119
  go_upto_region 3 with fail
  clear c7 zb d0 d1 d2 d3
  generalize (W.alloc (.cells #[.string ⟨#[]⟩,.int .i64 0,.int .i64 0,.int .i64 0] 190)).alloc (.cells #[.string R.pends[k].1.key,.int .i64 R.pends[k].1.ver,.int .i64 R.pends[k].2.client,.int .i64 R.pends[k].2.req] 190)=W2 at *
  have HR2:=Lib.hid (HR.out.grown HG2.out)
  have c7:=HR2.out.c7
  go_wp2_with (at_builtin;refine wpList_sapp (l:=[]) (m:=R.pends.take k) _ rfl (.tmp 14) (.tmp 20) 49 rfl lenP oneP i0 _ 40 Tryz.underlying49 hi hz0 hz1 hz2 rfl (by decide) (by decide) rfl ?a1 rfl ?a2 ?a3 k ?a4 ?_)
  case a1=>exact World.ownsRow_nil _ _ _ _
  case a2=>exact yrow_take lenP HR2.out.pends k (by omega) _
  case a3=>simp;omega
  case a4=>simp;omega
  intro p1 cap1 w1 ha1
  have HA1:=Lib.hid ha1
  have e1:W2.grownBy w1 none:=ha1.2.1
  have HR3:=Lib.hid (HR2.out.grown e1)
  have B4:=(e1.block W.heap.size (Array.getElem?_eq_some_iff.1 HB4.out).1 (by simp)).trans HB4.out
  have B5:=(e1.block (W.heap.size+1) (Array.getElem?_eq_some_iff.1 HB5.out).1 (by simp)).trans HB5.out
  have H4:=Lib.hid B4
  have H5:=Lib.hid B5
  clear ha1 c7 B4 B5
  have HE1:=Lib.hid e1
  clear e1
  have c7:=HR3.out.c7
  have hk1:(k:Int)+1≤(cap:Int):=by omega
  go_wp2_with (at_builtin;refine wpList_sapp (l:=R.pends.take k) (m:=R.pends.drop (k+1)) _ rfl (.tmp 23) (.tmp 30) 49 rfl lenP oneP i0 _ 40 Tryz.underlying49 hi hz0 hz1 hz2 rfl (by decide) (by decide) rfl ?b1 rfl ?b2 ?b3 (R.pends.length-1) ?b4 ?_)
  case b1=>exact HA1.out.1
  case b2=>exact yrow_drop lenP HR3.out.pends (k+1) (by omega) _ (by omega) _ (by omega) _
  case b3=>simp;omega
  case b4=>simp;omega
  intro p2' cap2' w2 ha2
  obtain⟨e2,en⟩:=two_apps HA1.out (grown_refl _) ha2
  have HE2:=Lib.hid e2
  have HEN:=Lib.hid en
  have HA2:=Lib.hid ha2
  have HR4:=Lib.hid (HR2.out.grown e2)
  have B4:=(e2.block W.heap.size (Array.getElem?_eq_some_iff.1 HB4.out).1 (by simp)).trans HB4.out
  have B5:=(e2.block (W.heap.size+1) (Array.getElem?_eq_some_iff.1 HB5.out).1 (by simp)).trans HB5.out
  have c7'':=HR4.out.c7
  have z7'':=HR4.out.free 7
  have b40:w2.cell? ⟨W.heap.size,0,none⟩=some (.string ⟨#[]⟩):=(cell_block B4 0).trans rfl
  have b41:w2.cell? ⟨W.heap.size,1,none⟩=some (.int .i64 0):=(cell_block B4 1).trans rfl
  have b42:w2.cell? ⟨W.heap.size,2,none⟩=some (.int .i64 0):=(cell_block B4 2).trans rfl
  have b43:w2.cell? ⟨W.heap.size,3,none⟩=some (.int .i64 0):=(cell_block B4 3).trans rfl
  have z40:=free_block B4 0
  have z41:=free_block B4 1
  have z42:=free_block B4 2
  have z43:=free_block B4 3
  have b50:w2.cell? ⟨W.heap.size+1,0,none⟩=some (.string R.pends[k].1.key):=(cell_block B5 0).trans rfl
  have b51:w2.cell? ⟨W.heap.size+1,1,none⟩=some (.int .i64 R.pends[k].1.ver):=(cell_block B5 1).trans rfl
  have b52:w2.cell? ⟨W.heap.size+1,2,none⟩=some (.int .i64 R.pends[k].2.client):=(cell_block B5 2).trans rfl
  have b53:w2.cell? ⟨W.heap.size+1,3,none⟩=some (.int .i64 R.pends[k].2.req):=(cell_block B5 3).trans rfl
  have n1:¬rb=W.heap.size:=by omega
  have n2:¬rb=W.heap.size+1:=by omega
  have n3:¬W.heap.size=rb:=by omega
  have n4:¬W.heap.size+1=rb:=by omega
  clear e2 en ha2 B4 B5 c7 hk1
  go_wp2
  refine bodyPost_ret (v:=encRPend R.pends[k].1 R.pends[k].2) (by simp[encRPend,results,Tryz.results119,go_sem, *]) rfl ⟨rfl,?_⟩
  have hA:=Among.side (w:=W2) HBS.out HR.out (by have:=HSZ.out;omega) rfl
  have hN:=RAt.newP (W0:=W2) (bs:=fun k=>bs k∧k≠W.heap.size) (grown_refl _) hA HR2.out HE2.out HA2.out.1 HEN.out
  have ht:R.pends.take k++R.pends.drop (k+1)=R.pends.eraseIdx k:=by rw[List.eraseIdx_eq_take_drop_succ]
  rw[ht] at hN
  refine side_end (b:=W.heap.size) ?_
  refine side_set (side_set (side_set (side_set ⟨hN.1,turn_then HG2.out hN.2⟩ (Nat.le_refl _) _ _) (Nat.le_refl _) _ _) (Nat.le_refl _) _ _) (Nat.le_refl _) _ _
end
theorem neq_id (a b:ID) (w:World):(binOp .neq 59 (.agg #[.string a.key,.int .i64 a.ver]) (.agg #[.string b.key,.int .i64 b.ver])).run Tryz.prog w = .ok (.bool (!decide (a=b))) w:=by
 obtain⟨a1,a2⟩:=a
 obtain⟨b1,b2⟩:=b
 simp[go_sem,toList_eq_iff]
 by_cases e1:a1=b1 <;> by_cases e2:a2=b2 <;> simp[e1,e2]
def encRHold (h:RHold):Value:=.agg #[.string h.id.key,.int .i64 h.id.ver,.int .i64 h.node,.int .i64 h.inc,.bool h.ref]
def otherH (x y:RHold):Bool:=decide (y.id≠x.id) || decide (y.node≠x.node)
def keptF {α:Type} (f:α→Bool) (l:List α) (k:Nat):List α:=(l.take k).filter f
theorem keptF_zero {α:Type} (f:α→Bool) (l:List α):keptF f l 0 = []:=by simp[keptF]
theorem keptF_yes {α:Type} (f:α→Bool) (l:List α) (k:Nat) (hk:k<l.length) (h:f l[k]=true):keptF f l (k+1)=keptF f l k ++ [l[k]]:=by
 unfold keptF
 rw[List.take_succ_eq_append_getElem hk,List.filter_append]
 simp[h]
theorem keptF_no {α:Type} (f:α→Bool) (l:List α) (k:Nat) (hk:k<l.length) (h:f l[k]=false):keptF f l (k+1)=keptF f l k:=by
 unfold keptF
 rw[List.take_succ_eq_append_getElem hk,List.filter_append]
 simp[h]
theorem keptF_all {α:Type} (f:α→Bool) (l:List α) (k:Nat) (hk:l.length≤k):keptF f l k=l.filter f:=by
 unfold keptF;rw[List.take_of_length_le hk]
theorem keptF_len {α:Type} (f:α→Bool) (l:List α) (k:Nat):(keptF f l k).length≤l.length:=by
 unfold keptF
 exact Nat.le_trans (List.length_filter_le _ _) (by rw[List.length_take];omega)
structure Grows {α:Type} (W:World) (E:TypeId) (sz:Nat) (enc:α→List Value) (v:Value) (l:List α) (w:World):Prop where
 grown:W.grownBy w none
 row:SRow w E sz enc v l
 own:∀g,v.ownBlock=some g→W.heap.size≤g
theorem Grows.start {α:Type} (W:World) (E:TypeId) (sz:Nat) (enc:α→List Value):Grows W E sz enc (.slice none 0 0) ([]:List α) W:=⟨grown_refl _,World.ownsRow_nil _ _ _ _,fun g h=>by cases h⟩
theorem Grows.more {α:Type} {W w w':World} {E:TypeId} {sz:Nat} {enc:α→List Value} {v:Value} {l:List α} (h:Grows W E sz enc v l w) (hg:w.grownBy w' none):Grows W E sz enc v l w':=
 ⟨grown_trans h.grown hg,h.row.grown hg (by simp),h.own⟩
theorem Grows.app {α:Type} {W wx w1:World} {E:TypeId} {sz:Nat} {enc:α→List Value} {v v':Value} {l l':List α} (h:Grows W E sz enc v l wx) (ha:Apped wx E sz enc v l' v' w1):Grows W E sz enc v' l' w1:=by
 refine⟨grown_own h.grown ha.2.1 h.own,ha.1,fun g hg=>?_⟩
 rcases ha.2.2 with e|e
 ·exact h.own g (e ▸ hg)
 ·rw[e] at hg;cases hg;exact h.grown.size
section
variable {bs : Nat → Prop} {W : World} {rb : Nat} {R : RTab}
set_option maxHeartbeats 8000000 in
set_option maxRecDepth 100000 in
theorem rsays_any (h:RAt bs W rb R) (hbs:∀k,W.heap.size≤k→bs k) (x:RHold) (hl:R.holds.length≤100000000):Calls Tryz.prog 116 #[.pointer (some ⟨rb,0,none⟩),encRHold x] W fun e w'=>e = .returned (.tuple #[])∧RAt bs w' rb (rsays R x)∧Turn bs W w':=by
 obtain⟨vL,vC,vV,vP,vH,h,hb1,hb2,hb3,hb4,hb5,hb6⟩:=h
 obtain⟨i0,hi,hz0,hz1,hz2⟩:=info_parts infoH
 obtain⟨p,cap,rfl,hcap,hlc⟩:=h.holds.form
 have HBS:Hid (Among bs W rb vL vC vV vP (.slice p R.holds.length cap)):=(show Among bs W rb vL vC vV vP (.slice p R.holds.length cap) from ⟨hb1,hb2,hb3,hb4,hb5,hb6,hbs⟩)
 clear hb1 hb2 hb3 hb4 hb5 hb6 hbs
 have HR:=Lib.hid (h.grown (World.grownBy_alloc W (.cells #[.string x.id.key,.int .i64 x.id.ver,.int .i64 x.node,.int .i64 x.inc,.bool x.ref] 197) none))
 have HB:=Lib.hid (heap_alloc_new W (.cells #[.string x.id.key,.int .i64 x.id.ver,.int .i64 x.node,.int .i64 x.inc,.bool x.ref] 197))
 have HG:=Lib.hid (World.grownBy_alloc W (.cells #[.string x.id.key,.int .i64 x.id.ver,.int .i64 x.node,.int .i64 x.inc,.bool x.ref] 197) none)
 clear h
 simp only[encRHold]
 go_enter Tryz.func116,Tryz.ntmps116
 go_wp2
 generalize W.alloc (.cells #[.string x.id.key,.int .i64 x.id.ver,.int .i64 x.node,.int .i64 x.inc,.bool x.ref] 197)=W2 at *
 go_loopw [4,5] (fun lv i wr=>∃k:Nat,k≤R.holds.length∧i = .int .i64 k∧Grows W2 197 5 cellsH lv (keptF (otherH x) R.holds k) wr) (fun _ i _=>R.holds.length-(intOf i).toNat)
 case atStart=>exact⟨0,Nat.zero_le _,rfl,by rw[keptF_zero];exact Grows.start _ _ _ _⟩
 case round=>
  obtain⟨k,hk,rfl,hgr⟩:=hrel
  have hg2:=hgr.grown
  have hR:=HR.out.grown hg2
  have hkl:=keptF_len (otherH x) R.holds k
  obtain⟨pl,cl,rfl,-,-⟩:=hgr.row.form
  have HGR:=Lib.hid hgr
  have c8:=hR.c8
  have z8:=hR.free 8
  have hrb:=hR.lt
  have b:=(hg2.block W.heap.size (Array.getElem?_eq_some_iff.1 HB.out).1 (by simp)).trans HB.out
  have b0:wr.cell? ⟨W.heap.size,0,none⟩=some (.string x.id.key):=(cell_block b 0).trans rfl
  have b1:wr.cell? ⟨W.heap.size,1,none⟩=some (.int .i64 x.id.ver):=(cell_block b 1).trans rfl
  have b2:wr.cell? ⟨W.heap.size,2,none⟩=some (.int .i64 x.node):=(cell_block b 2).trans rfl
  have b3:wr.cell? ⟨W.heap.size,3,none⟩=some (.int .i64 x.inc):=(cell_block b 3).trans rfl
  have b4:wr.cell? ⟨W.heap.size,4,none⟩=some (.bool x.ref):=(cell_block b 4).trans rfl
  have hwl:W.heap.size<wr.heap.size:=(Array.getElem?_eq_some_iff.1 b).1
  clear b hgr hg2
  by_cases hlt:k<R.holds.length
  ·obtain⟨g,cap',hv',hc,hfz⟩:=(hR.holds.at lenH).resolve_left (fun e=>by rw[e] at hlt;simp at hlt)
   injection hv' with hv1 hv2 hv3
   subst hv1 hv3
   have e0:wr.cell? ⟨g,k*5,none⟩=some (.string R.holds[k].id.key):=hc k hlt 0 _ rfl
   have e1:wr.cell? ⟨g,k*5+1,none⟩=some (.int .i64 R.holds[k].id.ver):=hc k hlt 1 _ rfl
   have e2:wr.cell? ⟨g,k*5+2,none⟩=some (.int .i64 R.holds[k].node):=hc k hlt 2 _ rfl
   have e3:wr.cell? ⟨g,k*5+3,none⟩=some (.int .i64 R.holds[k].inc):=hc k hlt 3 _ rfl
   have e4:wr.cell? ⟨g,k*5+4,none⟩=some (.bool R.holds[k].ref):=hc k hlt 4 _ rfl
   have HH:=Lib.hid hR
   have heq:=neq_id R.holds[k].id x.id
   clear hR hv2 hc hfz
   by_cases hi2:R.holds[k].id=x.id∧R.holds[k].node=x.node
   ·have HK:Hid (keptF (otherH x) R.holds (k+1)=keptF (otherH x) R.holds k):=(show _=_ from keptF_no _ _ _ hlt (by simp[otherH,hi2.1,hi2.2]))
    rw[show(!decide (R.holds[k].id=x.id))=false from by simp[hi2.1]] at heq
    have hd:(R.holds[k].node != x.node)=false:=by simp[hi2.2]
    clear hi2
    go_wp2
    go_quiet (fail)
    go_wp2
    go_roundw
    case rel=>exact⟨k+1,by omega,by go_num,by rw[HK.out];exact HGR.out.more (grown_drewN _ _)⟩
    case measure=>simp[intOf];omega
   ·have HK:Hid (keptF (otherH x) R.holds (k+1)=keptF (otherH x) R.holds k ++ [R.holds[k]]):=(show _=_ from keptF_yes _ _ _ hlt (by
     by_cases h1:R.holds[k].id=x.id
     ·have h2:R.holds[k].node≠x.node:=fun e=>hi2 ⟨h1,e⟩
      simp[otherH,h2]
     ·simp[otherH,h1]))
    by_cases h1:R.holds[k].id=x.id
    ·have h2:R.holds[k].node≠x.node:=fun e=>hi2 ⟨h1,e⟩
     rw[show(!decide (R.holds[k].id=x.id))=false from by simp[h1]] at heq
     have hd:(R.holds[k].node != x.node)=true:=by simp[h2]
     clear hi2 h1 h2
     go_wp2
     go_quiet (fail)
     go_wp2_with (at_builtin;refine wpList_sapp (l:=keptF (otherH x) R.holds k) (m:=[R.holds[k]]) _ rfl (.tmp 39) (.tmp 47) 50 rfl lenH oneH i0 _ 48 Tryz.underlying50 hi hz0 hz1 hz2 rfl (by decide) (by decide) rfl ?a1 rfl ?a2 ?a3 _ rfl ?_)
     case a1=>exact(HGR.out.more (by repeat (first|exact grown_refl _|exact grown_drewN _ _|refine grown_alloc ?_ _|refine grown_drew ?_))).row
     case a2=>exact yrow_at R.holds[k] (heap_alloc_new _ _)
     case a3=>simp only[List.length_cons,List.length_nil];omega
     intro p' c' w1 ha
     have HA:=Lib.hid (Grows.app (Grows.more HGR.out (by repeat (first|exact grown_refl _|exact grown_drewN _ _|refine grown_alloc ?_ _|refine grown_drew ?_))) ha)
     clear ha
     go_wp2
     go_roundw
     case rel=>exact⟨k+1,by omega,by go_num,by rw[HK.out];exact HA.out⟩
     case measure=>simp[intOf];omega
    ·rw[show(!decide (R.holds[k].id=x.id))=true from by simp[h1]] at heq
     clear hi2 h1
     go_wp2
     go_quiet (fail)
     go_wp2_with (at_builtin;refine wpList_sapp (l:=keptF (otherH x) R.holds k) (m:=[R.holds[k]]) _ rfl (.tmp 39) (.tmp 47) 50 rfl lenH oneH i0 _ 48 Tryz.underlying50 hi hz0 hz1 hz2 rfl (by decide) (by decide) rfl ?b1 rfl ?b2 ?b3 _ rfl ?_)
     case b1=>exact(HGR.out.more (by repeat (first|exact grown_refl _|exact grown_drewN _ _|refine grown_alloc ?_ _|refine grown_drew ?_))).row
     case b2=>exact yrow_at R.holds[k] (heap_alloc_new _ _)
     case b3=>simp only[List.length_cons,List.length_nil];omega
     intro p' c' w1 ha
     have HA:=Lib.hid (Grows.app (Grows.more HGR.out (by repeat (first|exact grown_refl _|exact grown_drewN _ _|refine grown_alloc ?_ _|refine grown_drew ?_))) ha)
     clear ha
     go_wp2
     go_roundw
     case rel=>exact⟨k+1,by omega,by go_num,by rw[HK.out];exact HA.out⟩
     case measure=>simp[intOf];omega
  ·have hge:R.holds.length≤k:=by omega
   have HK:Hid (keptF (otherH x) R.holds k ++ [x]=(rsays R x).holds):=(show _=_ from by rw[keptF_all _ _ _ hge];rfl)
   clear hR hge
   go_wp2_with (at_builtin;refine wpList_sapp (l:=keptF (otherH x) R.holds k) (m:=[x]) _ rfl (.tmp 50) (.tmp 52) 50 rfl lenH oneH i0 _ 48 Tryz.underlying50 hi hz0 hz1 hz2 rfl (by decide) (by decide) rfl ?c1 rfl ?c2 ?c3 _ rfl ?_)
   case c1=>exact(HGR.out.more (by repeat (first|exact grown_refl _|exact grown_drewN _ _|refine grown_alloc ?_ _|refine grown_drew ?_))).row
   case c2=>exact yrow_at x (heap_alloc_new _ _)
   case c3=>simp only[List.length_cons,List.length_nil];omega
   intro p' c' w1 ha
   have hq:=Grows.app (Grows.more HGR.out (by repeat (first|exact grown_refl _|exact grown_drewN _ _|refine grown_alloc ?_ _|refine grown_drew ?_))) ha
   have HA:=Lib.hid hq
   have d8:=(HR.out.grown hq.grown).c8
   have y8:=(HR.out.grown hq.grown).free 8
   clear ha hq
   go_wp2
   first|go_end0|refine bodyPost_ret (results_none rfl _ _ _) rfl ?_
   refine⟨rfl,?_⟩
   have hN:=RAt.newH (W0:=W) HG.out HBS.out HR.out HA.out.grown HA.out.row (fun g hg=>Nat.le_trans HG.out.size (HA.out.own g hg))
   rw[HK.out] at hN
   exact hN
end
end Go.Proofs.YtjfelfjobeeenaaGreat
