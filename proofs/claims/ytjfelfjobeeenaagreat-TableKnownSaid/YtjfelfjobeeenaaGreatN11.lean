/- What life does, walked. Conditions: none, or as the theorems say. -/
import Derived.Test.YtjfelfjobeeenaaGreatN10
namespace Go.Proofs.YtjfelfjobeeenaaGreat
set_option maxHeartbeats 200000000
set_option linter.unusedVariables false
set_option linter.unusedSimpArgs false
open Go.RowKit Go.Sf Go.Shelf
section
variable {w w1 : World} {tb : Nat} {T : Tab}
def Xb (T:Tab) (c:Cmd):Bool:=!(decide (c.zvx≤yq T c.node) || decide (T.offers<c.zvx))
def Yp (T:Tab) (c:Cmd) (j:Nat):Tab:={ T with zv0:=T.zv0.set c.node.toNat c.zvx,holds:=if 1≤j then xi T.holds c.node else T.holds,zv2:=if 2≤j then xi T.zv2 c.node else T.zv2 }
def Xu (T:Tab) (c:Cmd):Tab:=if Xb T c=true then Yp T c 2 else T
theorem lifeT_t {T:Tab} {c:Cmd} (h:Xb T c=true):Xu T c=Yp T c 2:=if_pos h
theorem zp9 {T:Tab} {c:Cmd} (h:Xb T c=false):Xu T c=T:=if_neg (by rw[h];decide)
theorem Chg.mono {a b:World} {bs cs:List Nat} (h:Chg a b bs) (hs:∀x∈bs,x∈cs):Chg a b cs:=⟨h.1,h.2.1,h.2.2.1,h.2.2.2.1,fun k hk hn=>h.2.2.2.2 k hk (fun e=>hn (hs k e))⟩
theorem Two.keptRow {w w1:World} {fb tb:Nat} {mf mt:List (ID × ye)} {r:Nat} (h:Two w fb tb mf mt) (hg:w.grownBy w1 (some r)) (hr:∀b∈fb :: tb :: (mf.map (·.2.blk)++mt.map (·.2.blk)),b≠r):Two w1 fb tb mf mt:=
 ⟨h.f.kept hg (by simpa using hr fb (by simp)),h.t.kept hg (by simpa using hr tb (by simp)),
 fun x hx=>zw.kept (h.fs x hx) hg (by have:=hr x.2.blk (by simp only[List.mem_cons,List.mem_append,List.mem_map];exact Or.inr (Or.inr (Or.inl ⟨x,hx,rfl⟩)));simpa using this),
 fun x hx=>zw.kept (h.ts x hx) hg (by have:=hr x.2.blk (by simp only[List.mem_cons,List.mem_append,List.mem_map];exact Or.inr (Or.inr (Or.inr ⟨x,hx,rfl⟩)));simpa using this),h.nd⟩
theorem Two.lt {w:World} {fb tb:Nat} {mf mt:List (ID × ye)} (h:Two w fb tb mf mt):∀b∈fb :: tb :: (mf.map (·.2.blk)++mt.map (·.2.blk)),b<w.heap.size:=by
 intro b hb;simp only[List.mem_cons,List.mem_append,List.mem_map] at hb
 rcases hb with rfl|rfl|⟨x,hx,rfl⟩|⟨x,hx,rfl⟩
 ·exact h.f.lt
 ·exact h.t.lt
 ·exact zw.lt (h.fs x hx)
 ·exact zw.lt (h.ts x hx)
structure zsw (w wr:World) (tb rk:Nat) (T:Tab) (c:Cmd) (j:Nat):Prop where
 rep:yh wr tb (Yp T c j)
 chg:Chg w wr (T.blocks tb)
 box:wr.heap[w.heap.size]? = some (.cells #[.int .u8 c.kind,.int .i64 c.node,.int .i64 c.zvw,.int .i64 c.zvx,.int .i64 c.zvy,.int .i64 c.zvz,.string c.key,.int .i64 c.code] 24 (0,0))
 out:w.heap.size<rk
 row:wr.heap[rk]? = some (.cells #[.map (some T.hb),.map (some T.rb)] 120 (0,0))
set_option maxRecDepth 100000 in
theorem life_do (h:yh w tb T) (c:Cmd) (hl:T.zv0.length≤9223372036854775807) (h0:0≤c.node) (h1:c.node<T.zv0.length) :
  Calls Tryz.prog 130 #[.pointer (some ⟨tb,0,none⟩),zp c] w fun e w'=>e = .returned (.tuple #[])∧
   yh w' tb (Xu T c)∧Chg w w' (T.blocks tb):=by
 have htb:=h.tlt;have htb1:tb<w.heap.size+1:=by omega
 have hlb:=h.llt;have hlb1:T.lb<w.heap.size+1:=by omega
 have c1:=h.c1;have c3:=h.c3;have c7:=h.c7;have c8:=h.c8;obtain⟨kind,node,zvw,zvx,zvy,zvz,key,code⟩:=c;simp only at h0 h1;obtain⟨nd,rfl⟩:=Int.eq_ofNat_of_zero_le h0;have hnd:nd<T.zv0.length:=by omega
 have cl:=h.life nd hnd;have fl:=h.lfree nd;have HL:Hid (yq T nd=T.zv0.getD nd 0):=(show _=_ from by unfold yq;rw[if_neg (by omega)];simp)
 have HB:Hid (Xb T ⟨kind,(nd:Int),zvw,zvx,zvy,zvz,key,code⟩ = !(decide (zvx≤T.zv0.getD nd 0) || decide (T.offers<zvx))):=(show _=_ from by unfold Xb;simp only;rw[HL.out])
 have HT:=za h;clear h HL;generalize T.zv0.getD nd 0=old at *;generalize hoff:T.offers=off at *;clear hoff;simp only[zp]
 by_cases hi1:zvx≤old
 ·have d1:decide (zvx≤old)=true:=by simpa using hi1
  have HB2:Hid (Xb T ⟨kind,(nd:Int),zvw,zvx,zvy,zvz,key,code⟩=false):=(show _=_ from by rw[HB.out,d1];rfl)
  clear HB
  go_enter Tryz.func130,Tryz.ntmps130
  go_wp2;refine zo (by kernel_rfl) (by kernel_rfl) ?_
  repeat (any_goals (first|go_big_quiet_step (fail)|quiet_step (fail)))
  refine wpQuiet_nil ?_;intro _ hw';obtain⟨y,hw''⟩:=hw';subst hw'';go_wp2;refine bodyPost_ret (results_none rfl _ _ _) rfl ?_;have hg:w.grownBy (ext (w.alloc (.cells #[.int .u8 kind,.int .i64 nd,.int .i64 zvw,.int .i64 zvx,.int .i64 zvy,.int .i64 zvz,.string key,.int .i64 code] 24)) y) none:=by repeat (first|exact zd _|exact zc _ _ _|refine zi ?_ _|refine zg ?_ _|refine zf ?_)
  exact⟨rfl,by rw[zp9 HB2.out];exact HT.out.grown hg,Chg.of_grown hg _⟩
 ·have d1:decide (zvx≤old)=false:=by simpa using hi1
  by_cases hi2:off<zvx
  ·have d2:decide (off<zvx)=true:=by simpa using hi2
   have HB2:Hid (Xb T ⟨kind,(nd:Int),zvw,zvx,zvy,zvz,key,code⟩=false):=(show _=_ from by rw[HB.out,d1,d2];rfl)
   clear HB
   go_enter Tryz.func130,Tryz.ntmps130
   go_wp2;refine zo (by kernel_rfl) (by kernel_rfl) ?_
   repeat (any_goals (first|go_big_quiet_step (fail)|quiet_step (fail)))
   refine wpQuiet_nil ?_;intro _ hw';obtain⟨y,hw''⟩:=hw';subst hw'';go_wp2;refine bodyPost_ret (results_none rfl _ _ _) rfl ?_;have hg:w.grownBy (ext (w.alloc (.cells #[.int .u8 kind,.int .i64 nd,.int .i64 zvw,.int .i64 zvx,.int .i64 zvy,.int .i64 zvz,.string key,.int .i64 code] 24)) y) none:=by repeat (first|exact zd _|exact zc _ _ _|refine zi ?_ _|refine zg ?_ _|refine zf ?_)
   exact⟨rfl,by rw[zp9 HB2.out];exact HT.out.grown hg,Chg.of_grown hg _⟩
  ·have d2:decide (off<zvx)=false:=by simpa using hi2
   have HB2:Hid (Xb T ⟨kind,(nd:Int),zvw,zvx,zvy,zvz,key,code⟩=true):=(show _=_ from by rw[HB.out,d1,d2];rfl)
   clear HB
   go_enter Tryz.func130,Tryz.ntmps130
   go_wp2;refine zo (by kernel_rfl) (by kernel_rfl) ?_
   repeat (any_goals (first|go_big_quiet_step (fail)|quiet_step (fail)))
   refine wpQuiet_nil ?_;intro _ hw';obtain⟨y,hw''⟩:=hw';subst hw'';go_wp2
   go_region
   go_wp2;have hg:w.grownBy (ext (w.alloc (.cells #[.int .u8 kind,.int .i64 nd,.int .i64 zvw,.int .i64 zvx,.int .i64 zvy,.int .i64 zvz,.string key,.int .i64 code] 24)) ⟨y.d+1,y.os⟩) none:=by repeat (first|exact zd _|exact zc _ _ _|refine zi ?_ _|refine zg ?_ _|refine zf ?_)
   have T2:yh ((ext (w.alloc (.cells #[.int .u8 kind,.int .i64 nd,.int .i64 zvw,.int .i64 zvx,.int .i64 zvy,.int .i64 zvz,.string key,.int .i64 code] 24)) ⟨y.d+1,y.os⟩).setCell ⟨T.lb,nd,none⟩ (.int .i64 zvx)) tb (Yp T ⟨kind,(nd:Int),zvw,zvx,zvy,zvz,key,code⟩ 0):=(HT.out.grown hg).upd_life nd zvx;have C2:Chg w ((ext (w.alloc (.cells #[.int .u8 kind,.int .i64 nd,.int .i64 zvw,.int .i64 zvx,.int .i64 zvy,.int .i64 zvz,.string key,.int .i64 code] 24)) ⟨y.d+1,y.os⟩).setCell ⟨T.lb,nd,none⟩ (.int .i64 zvx)) (T.blocks tb):=(Chg.of_grown hg _).setCell ⟨T.lb,nd,none⟩ _ (Or.inl (by simp[Tab.blocks]))
   have B2:((ext (w.alloc (.cells #[.int .u8 kind,.int .i64 nd,.int .i64 zvw,.int .i64 zvx,.int .i64 zvy,.int .i64 zvz,.string key,.int .i64 code] 24)) ⟨y.d+1,y.os⟩).setCell ⟨T.lb,nd,none⟩ (.int .i64 zvx)).heap[w.heap.size]? = some (.cells #[.int .u8 kind,.int .i64 nd,.int .i64 zvw,.int .i64 zvx,.int .i64 zvy,.int .i64 zvz,.string key,.int .i64 code] 24 (0,0)):=by
    rw[Below.heap_setCell _ _ _ _ (by simp;omega),zdb _ _ (by simp)]
    exact(MapKept.heap_alloc w _).1
   have hsz:w.heap.size<((ext (w.alloc (.cells #[.int .u8 kind,.int .i64 nd,.int .i64 zvw,.int .i64 zvx,.int .i64 zvy,.int .i64 zvz,.string key,.int .i64 code] 24)) ⟨y.d+1,y.os⟩).setCell ⟨T.lb,nd,none⟩ (.int .i64 zvx)).heap.size:=by simp[World.setCell,ext];omega
   generalize ((ext (w.alloc (.cells #[.int .u8 kind,.int .i64 nd,.int .i64 zvw,.int .i64 zvx,.int .i64 zvy,.int .i64 zvz,.string key,.int .i64 code] 24)) ⟨y.d+1,y.os⟩).setCell ⟨T.lb,nd,none⟩ (.int .i64 zvx))=W2 at *;have k7:=T2.c7;have k8:=T2.c8;have HT2:=za T2;have HC2:=za C2;have HB3:=za B2;clear T2 C2 B2 c7 c8 c1 c3 cl fl;simp only[Yp] at k7 k8
   go_region
   go_wp2;obtain⟨rk,hrk⟩:∃rk,rk=W2.heap.size:=⟨_,rfl⟩;have L0:zsw w ((W2.alloc (.cells #[.map (some T.hb),.map (some T.rb)] 120)).drew) tb rk T ⟨kind,(nd:Int),zvw,zvx,zvy,zvz,key,code⟩ 0:={
    rep:=HT2.out.grown (zf (zc W2 _ none))
    chg:=HC2.out.grown (zf (zc W2 _ none))
    box:=(Below.heap_alloc W2 (.cells #[.map (some T.hb),.map (some T.rb)] 120) _ hsz).trans HB3.out
    out:=by rw[hrk];exact hsz
    row:=by rw[hrk];exact(MapKept.heap_alloc W2 _).1 }
   have HL0:=za L0;have HRK:=za hrk;clear L0 k7 k8;rw[←hrk];clear hrk
   go_loopw [47] (fun i wr=>∃j:Nat,j≤2∧i = .int .i64 j∧zsw w wr tb rk T ⟨kind,(nd:Int),zvw,zvx,zvy,zvz,key,code⟩ j) (fun i _=>2-(intOf i).toNat)
   case atStart=>exact⟨0,by omega,rfl,HL0.out⟩
   case round=>
    obtain⟨j,hj,rfl,hA⟩:=hrel;obtain⟨wo,rfl⟩:∃wo:World,wo=wr:=⟨_,rfl⟩;have hj3:j=0∨j=1∨j=2:=by omega
    clear hj
    rcases hj3 with rfl|rfl|rfl
    ·skip
     have hrep:=hA.rep;have hbox:=hA.box;have hrow:=hA.row;have ri:wo.cell? ⟨rk,0,none⟩=some (.map (some T.hb)):=zh hrow 0;have hmap:zw wo T.hb zx yw T.holds:=hrep.holds;have hbn:wo.cell? ⟨w.heap.size,1,none⟩=some (.int .i64 nd):=zh hbox 1;have h2:Two wo T.hb T.rb T.holds T.zv2:=hrep.two.swap;have hlt2:=hmap.lt;have H2:=za h2;have HR:=za hrep;have HX:=za hbox;have HW:=za hrow;have HA:=za hA;clear h2 hrep hbox hrow hA
     go_wp2_with (at_range;refine Vq (ek:=zx) (ev:=yw) _ rfl _ 120 rfl Tryz.underlying120 T.hb T.holds rfl hmap ?_;intro w0 hi0 hg0 hs0)
     try go_frame
     go_loopw [53] (fun _ wi=>∃seen,ut wi wo.heap.size T.hb zx yw T.holds seen∧Two wi T.hb T.rb (zcu T.holds seen nd) T.zv2∧Chg wo wi ((T.holds).map (·.2.blk))) (fun _ wi=>zfe wi wo.heap.size T.hb)
     case atStart=>exact⟨fun _=>false,hi0,by rw[zhd];exact H2.out.grown hg0,Chg.of_grown hg0 _⟩
     case round=>
      obtain⟨seen,hi,hT2,hC⟩:=hrel
      go_wp2_with (at_next;refine Ui _ rfl _ rfl Vb wo.heap.size T.hb _ seen rfl hi ?_ ?_)
      ·intro hall
       rw[zm0 hall] at hT2;go_wp2
       go_roundw
       case rel=>
        refine⟨0+1,by omega,rfl,?_⟩
        exact {
         rep:=by
          have:=HR.out.upd_sets (H:=xi T.holds nd) (R:=T.zv2) (hC.mono (by intro b hb;simp only[List.mem_cons,List.mem_append];exact Or.inr (Or.inr (Or.inl hb)))) hT2.swap (fun x hx=>Or.inl (by show x.2.blk∈T.holds.map (·.2.blk);rw[←Uh T.holds nd];exact List.mem_map.2 ⟨x,hx,rfl⟩)) (fun x hx=>Or.inl (List.mem_map.2 ⟨x,hx,rfl⟩))
          exact this
         chg:=HA.out.chg.trans hC (fun b hb=>Or.inl (by simp only[Tab.blocks,List.mem_cons,List.mem_append];simp[hb]))
         box:=(by rw[hC.block (Array.getElem?_eq_some_iff.1 HX.out).1 (fun hb=>by
          obtain⟨x,hx,ex⟩:=List.mem_map.1 hb;obtain⟨es,ck,hes,_⟩:=H2.out.fs x hx;rw[ex,HX.out] at hes
          cases hes)];exact HX.out)
         out:=HA.out.out
         row:=(by rw[hC.block (Array.getElem?_eq_some_iff.1 HW.out).1 (fun hb=>by
          obtain⟨x,hx,ex⟩:=List.mem_map.1 hb;obtain⟨es,ck,hes,_⟩:=H2.out.fs x hx;rw[ex,HW.out] at hes
          cases hes)];exact HW.out) }
       case measure=>simp[intOf]
      ·intro k s w1 ⟨hmem,hsn,hi1,hg1,hs1,hen⟩
       have hget:=zm1 hi.map.nodup hmem hsn (nd:Int);have hT3:=hT2;have hgm:=yd hget;have hnb:T.hb≠s.blk:=fun e=>by
        have ndp:=hT2.nd;simp only[List.nodup_cons,List.mem_cons,List.mem_append,not_or,List.mem_map,not_exists,not_and] at ndp
        exact ndp.1.2.1 _ hgm e.symm
       have hslt0:s.blk<wo.heap.size:=zw.lt (H2.out.fs _ hmem);have hbe:w.heap.size≠s.blk∧w.heap.size<wo.heap.size:=by
        have hlt3:w.heap.size<wo.heap.size:=(Array.getElem?_eq_some_iff.1 HX.out).1;refine⟨fun e=>?_,hlt3⟩
        have:s.blk<wo.heap.size:=hslt0;have hmc:=zw.same (w':=wo) (H2.out.fs _ hmem) rfl;obtain⟨es,ck,hes,_⟩:=hmc;rw[←e,HX.out] at hes
        cases hes
       have hrne:wo.heap.size≠s.blk:=by omega
       have xb:w1.cell? ⟨w.heap.size,1,none⟩=some (.int .i64 nd):=by
        refine hg1.cell (hC.cell hbn ?_) (by simp;omega)
        intro hb;obtain⟨x,hx,ex⟩:=List.mem_map.1 hb;obtain⟨es,ck,hes,_⟩:=H2.out.fs x hx;rw[ex] at hes;simp only at hes;rw[HX.out] at hes
        cases hes
       have hset:qr w1 s:=zw.kept (hT2.fs _ hgm) hg1 (by simp;omega)
       have HS:=za hset;have HG:=za hget;have HM:=za hmem;have HN:=za hsn;have HT4:=za hT2;have HC4:=za hC;have hlst:=Vd hmem hsn;have HLS:=za hlst;clear hset hget hmem hsn hT2 hT3 hC hgm hlst;obtain⟨kk,kn⟩:=k;obtain⟨sb,sm⟩:=s;simp only[zx,yw] at hen hnb hbe hrne hslt0 ⊢
       go_wp2_with (at_delete;refine jg (ek:=Value.int .i64) (ev:=Yd) _ rfl _ _ 127 3 rfl Qn Tryz.underlying127 sb (sm.map fun n=>(n,())) rfl HS.out (nd:Int) rfl ?_;intro w3 hm3 hg3 hs3;go_frame)
       have hi3:=hi1.kept hg3 (by simpa using hnb) (by simpa using hrne)
       have hm4:qr w3 ⟨sb,Zc sm nd⟩:=by rw[zbz] at hm3;exact hm3
       have hT4:=((HT4.out.keptRow hg1 (fun b hb=>by have:=H2.out.lt b (by rw[zi8] at hb;exact hb);omega)).mod HG.out (fun l=>Zc l nd) hm4 hg3)
       go_roundw
       case rel=>exact⟨_,hi3,by rw[←zi9 HN.out];exact hT4,(HC4.out.turned hg1 (Or.inr (Nat.le_refl _))).turned hg3 (Or.inl (List.mem_map.2 ⟨_,HM.out,rfl⟩))⟩
       case measure=>rw[hi3.left,hi.left];exact HLS.out
    ·skip
     have hrep:=hA.rep;have hbox:=hA.box;have hrow:=hA.row;have ri:wo.cell? ⟨rk,1,none⟩=some (.map (some T.rb)):=zh hrow 1;have hmap:zw wo T.rb zx yw T.zv2:=hrep.zv2;have hbn:wo.cell? ⟨w.heap.size,1,none⟩=some (.int .i64 nd):=zh hbox 1;have h2:Two wo T.rb T.hb T.zv2 (xi T.holds nd):=hrep.two;have hlt2:=hmap.lt;have H2:=za h2;have HR:=za hrep;have HX:=za hbox;have HW:=za hrow;have HA:=za hA;clear h2 hrep hbox hrow hA
     go_wp2_with (at_range;refine Vq (ek:=zx) (ev:=yw) _ rfl _ 120 rfl Tryz.underlying120 T.rb T.zv2 rfl hmap ?_;intro w0 hi0 hg0 hs0)
     try go_frame
     go_loopw [53] (fun _ wi=>∃seen,ut wi wo.heap.size T.rb zx yw T.zv2 seen∧Two wi T.rb T.hb (zcu T.zv2 seen nd) (xi T.holds nd)∧Chg wo wi ((T.zv2).map (·.2.blk))) (fun _ wi=>zfe wi wo.heap.size T.rb)
     case atStart=>exact⟨fun _=>false,hi0,by rw[zhd];exact H2.out.grown hg0,Chg.of_grown hg0 _⟩
     case round=>
      obtain⟨seen,hi,hT2,hC⟩:=hrel
      go_wp2_with (at_next;refine Ui _ rfl _ rfl Vb wo.heap.size T.rb _ seen rfl hi ?_ ?_)
      ·intro hall
       rw[zm0 hall] at hT2;go_wp2
       go_roundw
       case rel=>
        refine⟨1+1,by omega,rfl,?_⟩
        exact {
         rep:=by
          have:=HR.out.upd_sets (H:=xi T.holds nd) (R:=xi T.zv2 nd) (hC.mono (by intro b hb;simp only[List.mem_cons,List.mem_append];exact Or.inr (Or.inr (Or.inr hb)))) hT2 (fun x hx=>Or.inl (List.mem_map.2 ⟨x,hx,rfl⟩)) (fun x hx=>Or.inl (by show x.2.blk∈T.zv2.map (·.2.blk);rw[←Uh T.zv2 nd];exact List.mem_map.2 ⟨x,hx,rfl⟩))
          exact this
         chg:=HA.out.chg.trans hC (fun b hb=>Or.inl (by simp only[Tab.blocks,List.mem_cons,List.mem_append];simp[hb]))
         box:=(by rw[hC.block (Array.getElem?_eq_some_iff.1 HX.out).1 (fun hb=>by
          obtain⟨x,hx,ex⟩:=List.mem_map.1 hb;obtain⟨es,ck,hes,_⟩:=H2.out.fs x hx;rw[ex,HX.out] at hes
          cases hes)];exact HX.out)
         out:=HA.out.out
         row:=(by rw[hC.block (Array.getElem?_eq_some_iff.1 HW.out).1 (fun hb=>by
          obtain⟨x,hx,ex⟩:=List.mem_map.1 hb;obtain⟨es,ck,hes,_⟩:=H2.out.fs x hx;rw[ex,HW.out] at hes
          cases hes)];exact HW.out) }
       case measure=>simp[intOf]
      ·intro k s w1 ⟨hmem,hsn,hi1,hg1,hs1,hen⟩
       have hget:=zm1 hi.map.nodup hmem hsn (nd:Int);have hT3:=hT2;have hgm:=yd hget;have hnb:T.rb≠s.blk:=fun e=>by
        have ndp:=hT2.nd;simp only[List.nodup_cons,List.mem_cons,List.mem_append,not_or,List.mem_map,not_exists,not_and] at ndp
        exact ndp.1.2.1 _ hgm e.symm
       have hslt0:s.blk<wo.heap.size:=zw.lt (H2.out.fs _ hmem);have hbe:w.heap.size≠s.blk∧w.heap.size<wo.heap.size:=by
        have hlt3:w.heap.size<wo.heap.size:=(Array.getElem?_eq_some_iff.1 HX.out).1;refine⟨fun e=>?_,hlt3⟩
        have:s.blk<wo.heap.size:=hslt0;have hmc:=zw.same (w':=wo) (H2.out.fs _ hmem) rfl;obtain⟨es,ck,hes,_⟩:=hmc;rw[←e,HX.out] at hes
        cases hes
       have hrne:wo.heap.size≠s.blk:=by omega
       have xb:w1.cell? ⟨w.heap.size,1,none⟩=some (.int .i64 nd):=by
        refine hg1.cell (hC.cell hbn ?_) (by simp;omega)
        intro hb;obtain⟨x,hx,ex⟩:=List.mem_map.1 hb;obtain⟨es,ck,hes,_⟩:=H2.out.fs x hx;rw[ex] at hes;simp only at hes;rw[HX.out] at hes
        cases hes
       have hset:qr w1 s:=zw.kept (hT2.fs _ hgm) hg1 (by simp;omega)
       have HS:=za hset;have HG:=za hget;have HM:=za hmem;have HN:=za hsn;have HT4:=za hT2;have HC4:=za hC;have hlst:=Vd hmem hsn;have HLS:=za hlst;clear hset hget hmem hsn hT2 hT3 hC hgm hlst;obtain⟨kk,kn⟩:=k;obtain⟨sb,sm⟩:=s;simp only[zx,yw] at hen hnb hbe hrne hslt0 ⊢
       go_wp2_with (at_delete;refine jg (ek:=Value.int .i64) (ev:=Yd) _ rfl _ _ 127 3 rfl Qn Tryz.underlying127 sb (sm.map fun n=>(n,())) rfl HS.out (nd:Int) rfl ?_;intro w3 hm3 hg3 hs3;go_frame)
       have hi3:=hi1.kept hg3 (by simpa using hnb) (by simpa using hrne)
       have hm4:qr w3 ⟨sb,Zc sm nd⟩:=by rw[zbz] at hm3;exact hm3
       have hT4:=((HT4.out.keptRow hg1 (fun b hb=>by have:=H2.out.lt b (by rw[zi8] at hb;exact hb);omega)).mod HG.out (fun l=>Zc l nd) hm4 hg3)
       go_roundw
       case rel=>exact⟨_,hi3,by rw[←zi9 HN.out];exact hT4,(HC4.out.turned hg1 (Or.inr (Nat.le_refl _))).turned hg3 (Or.inl (List.mem_map.2 ⟨_,HM.out,rfl⟩))⟩
       case measure=>rw[hi3.left,hi.left];exact HLS.out
    ·have HA:=za hA
     clear hA;go_wp2
     go_end0
     exact⟨rfl,by rw[lifeT_t HB2.out];exact HA.out.rep,HA.out.chg⟩
end
def memH (m:List (ID × ye)) (i:ID):List Int:=((zt m i).map (·.mem)).getD []
def uj (T:Tab) (i:ID) (n:Int) (nb:Nat):Tab:={ T with holds:=Zb T.holds i n nb,zv2:=ql T.zv2 i fun l=>Zc l n }
def xg (T:Tab) (i:ID) (n:Int) (nb:Nat):Tab:={ T with zv2:=Zb T.zv2 i n nb,holds:=ql T.holds i fun l=>Zc l n }
theorem Ju {m:List (ID × ye)} {i:ID} {n:Int} {nb:Nat}:∀x∈Zb m i n nb,x.2.blk∈m.map (·.2.blk)∨x.2.blk=nb:=by
 intro x hx;unfold Zb at hx
 split at hx
 ·left;rw[←zb9 m i (fun l=>um l n)];exact List.mem_map.2 ⟨x,hx,rfl⟩
 ·rcases List.mem_append.1 hx with h|h
  ·exact Or.inl (List.mem_map.2 ⟨x,h,rfl⟩)
  ·simp only[List.mem_singleton] at h;subst h;exact Or.inr rfl
theorem Jv {m:List (ID × ye)} {i:ID} {f:List Int→List Int}:∀x∈ql m i f,x.2.blk∈m.map (·.2.blk):=by
 intro x hx;rw[←zb9 m i f];exact List.mem_map.2 ⟨x,hx,rfl⟩
section
variable {w w1 : World} {tb : Nat} {T : Tab}
theorem yh.held (h:yh w tb T) {i:ID} {n:Int} (m:Moved w w1 T.rb T.hb T.zv2 T.holds i n):∃nb,w.heap.size≤nb∧yh w1 tb (uj T i n nb)∧Chg w w1 (T.blocks tb):=by
 obtain⟨⟨nb,hnb,h2⟩,hc⟩:=m;refine⟨nb,hnb,h.upd_sets (hc.mono ?_) h2 (fun x hx=>?_) (fun x hx=>Or.inl (Jv x hx)),hc.mono ?_⟩
 ·intro b hb
  simp only[List.mem_cons,List.mem_append] at hb ⊢
  rcases hb with h|h|h
  ·exact Or.inl h
  ·exact Or.inr (Or.inr (Or.inr h))
  ·exact Or.inr (Or.inr (Or.inl h))
 ·rcases Ju x hx with h1|h1
  ·exact Or.inl h1
  ·exact Or.inr (by omega)
 ·intro b hb
  simp only[Tab.blocks,List.mem_cons,List.mem_append] at hb ⊢
  rcases hb with h|h|h <;> simp[h]
theorem yh.refused (h:yh w tb T) {i:ID} {n:Int} (m:Moved w w1 T.hb T.rb T.holds T.zv2 i n):∃nb,w.heap.size≤nb∧yh w1 tb (xg T i n nb)∧Chg w w1 (T.blocks tb):=by
 obtain⟨⟨nb,hnb,h2⟩,hc⟩:=m;refine⟨nb,hnb,h.upd_sets (hc.mono ?_) h2.swap (fun x hx=>Or.inl (Jv x hx)) (fun x hx=>?_),hc.mono ?_⟩
 ·intro b hb
  simp only[List.mem_cons,List.mem_append] at hb ⊢
  rcases hb with h|h|h
  ·exact Or.inr (Or.inl h)
  ·exact Or.inr (Or.inr (Or.inl h))
  ·exact Or.inr (Or.inr (Or.inr h))
 ·rcases Ju x hx with h1|h1
  ·exact Or.inl h1
  ·exact Or.inr (by omega)
 ·intro b hb
  simp only[Tab.blocks,List.mem_cons,List.mem_append] at hb ⊢
  rcases hb with h|h|h <;> simp[h]
def jn (T1:Tab) (c:Cmd):Tab:=
 match zt T1.pending ⟨c.key,c.zvz⟩ with
 | none=>T1
 | some p=>if ((memH T1.holds ⟨c.key,c.zvz⟩).length:Int)<T1.w then T1 else
   if (lookV T1 c.key).zvz<c.zvz then { jw T1 ⟨c.key,c.zvz⟩ p 0 with values:=ym T1.values c.key ⟨c.zvz,false⟩ } else jw T1 ⟨c.key,c.zvz⟩ p 0
def Qk (T:Tab) (c:Cmd):Bool:=Vi T c && yl T ⟨c.key,c.zvz⟩
def Qs (T:Tab) (c:Cmd) (nb:Nat):Tab:=if Qk T c=true then jn (uj T ⟨c.key,c.zvz⟩ c.node nb) c else T
theorem zsx {T:Tab} {c:Cmd} (h:Qk T c=false) (nb:Nat):Qs T c nb=T:=if_neg (by rw[h];decide)
theorem zj0 {T:Tab} {c:Cmd} (h:Qk T c=true) (nb:Nat):Qs T c nb=jn (uj T ⟨c.key,c.zvz⟩ c.node nb) c:=if_pos h
def zbq (w w':World) (tb:Nat) (T:Tab) (c:Cmd):Prop:=∃nb,w.heap.size≤nb∧yh w' tb (Qs T c nb)∧Chg w w' (T.blocks tb)
set_option maxRecDepth 100000 in
theorem ack_no (h:yh w tb T) (c:Cmd) (hl:T.zv0.length≤9223372036854775807) (h0:0≤c.node) (h1:c.node<T.zv0.length) (hno:Qk T c=false) :
  Calls Tryz.prog 132 #[.pointer (some ⟨tb,0,none⟩),zp c] w fun e w'=>e = .returned (.tuple #[])∧zbq w w' tb T c:=by
 obtain⟨kind,node,zvw,zvx,zvy,zvz,key,code⟩:=c;have HNOW:Hid (∀W,w.grownBy W none→Calls Tryz.prog 172 #[.pointer (some ⟨tb,0,none⟩),.agg #[.int .u8 kind,.int .i64 node,.int .i64 zvw,.int .i64 zvx,.int .i64 zvy,.int .i64 zvz,.string key,.int .i64 code]] W fun e w'=>e = .returned (.bool (Vi T ⟨kind,node,zvw,zvx,zvy,zvz,key,code⟩))∧W.grownBy w' none):=
  fun W hg=>Qp (h.grown hg) ⟨kind,node,zvw,zvx,zvy,zvz,key,code⟩ hl h0 h1
 have HWANT:Hid (∀W,w.grownBy W none→Calls Tryz.prog 36 #[.pointer (some ⟨tb,0,none⟩),.agg #[.string key,.int .i64 zvz]] W fun e w'=>e = .returned (.bool (yl T ⟨key,zvz⟩))∧W.grownBy w' none):=
  fun W hg=>Vm (h.grown hg) ⟨key,zvz⟩
 have HT:=za h;have HNO:=za hno;clear h hno;simp only[zp]
 cases hnow:Vi T ⟨kind,node,zvw,zvx,zvy,zvz,key,code⟩
 ·simp only[hnow] at HNOW
  clear hnow
  go_enter Tryz.func132,Tryz.ntmps132
  go_wp2_with (go_at_call 172;refine(HNOW.out _ (by repeat (first|exact zd _|exact zc _ _ _|refine zi ?_ _|refine zg ?_ _|refine zf ?_))).mono ?_;rintro e w1 ⟨rfl,hg1⟩)
  refine bodyPost_ret (results_none rfl _ _ _) rfl ?_;have hg:w.grownBy w1 none:=ze (by repeat (first|exact zd _|exact zc _ _ _|refine zi ?_ _|refine zg ?_ _|refine zf ?_)) hg1
  exact⟨rfl,w.heap.size,Nat.le_refl _,by rw[zsx HNO.out];exact HT.out.grown hg,Chg.of_grown hg _⟩
 ·cases hw:yl T ⟨key,zvz⟩
  ·simp only[hnow] at HNOW
   simp only[hw] at HWANT;clear hnow hw
   go_enter Tryz.func132,Tryz.ntmps132
   go_wp2_with (first
    | (go_at_call 172;refine(HNOW.out _ (by repeat (first|exact zd _|exact zc _ _ _|refine zi ?_ _|refine zg ?_ _|refine zf ?_))).mono ?_;rintro e w1 ⟨rfl,hg1⟩;obtain⟨x1,rfl⟩:=Ye hg1)
    | (go_at_call 36;refine(HWANT.out _ (by repeat (first|exact zd _|exact zc _ _ _|refine zi ?_ _|refine zg ?_ _|refine zf ?_))).mono ?_;rintro e w2 ⟨rfl,hg2⟩))
   refine bodyPost_ret (results_none rfl _ _ _) rfl ?_;have hg:w.grownBy w2 none:=ze (by repeat (first|exact zd _|exact zc _ _ _|refine zi ?_ _|refine zg ?_ _|refine zf ?_)) hg2
   exact⟨rfl,w.heap.size,Nat.le_refl _,by rw[zsx HNO.out];exact HT.out.grown hg,Chg.of_grown hg _⟩
  ·have:=HNO.out
   simp[Qk,hnow,hw] at this
end
end Go.Proofs.YtjfelfjobeeenaaGreat
