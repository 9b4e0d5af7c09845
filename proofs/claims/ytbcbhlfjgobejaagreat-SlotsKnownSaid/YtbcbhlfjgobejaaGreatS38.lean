/- starfishref19.add: the walk. Conditions: none, or as the theorems say. -/
import Derived.Test.YtbcbhlfjgobejaaGreatS37
set_option linter.unusedSimpArgs false
set_option linter.unusedVariables false
namespace Go.Proofs.YtbcbhlfjgobejaaGreat
set_option maxHeartbeats 200000000
open Go.RowKit Go.Sf Go.Shelf
variable {d:Bool} {X:List (List Int)} {n:Nat} {w:World}
theorem zkd:∃(i:TypeInfo) (z:Value) (by_:Nat),Tryz.prog.info? 198=some i∧i.zero=some z∧i.size=3∧i.bytes=by_∧z.cells.size=3∧by_≤1000:=by
 have h:((Tryz.prog.info? 198).bind λi=>i.zero.map λz=>(i.size,decide (i.bytes≤1000),z.cells.size))=some (3,true,3):=by kernel_rfl
 cases hi:Tryz.prog.info? 198 with
 | none=>rw[hi] at h;cases h
 | some i=>
  rw[hi] at h
  cases hz:i.zero with
  | none=>simp[hz] at h
  | some z=>
   simp[hz] at h
   exact⟨i,z,_,rfl,hz,h.1,rfl,h.2.2,h.2.1⟩
theorem Yz (X:World) (r:RcM):Zh (X.alloc (.cells #[.int .i64 r.k,.string (ofB r.b),.slice r.p r.n r.c] 198)) rcE (.slice (some ⟨X.heap.size,0,none⟩) 1 1) [r]:=by
 refine⟨_,1,rfl,Or.inr ⟨_,rfl,λj u hu=>?_⟩⟩
 rw[ut]
 exact(zf (heap_alloc_new X _) j).trans (by simpa[rcE] using hu)
structure Ur (W w:World) (rs:Nat→Prop) (rb:Nat) (rm:RcM) (lo:Value) (mo:List RcM) (out:List (Int × ye)):Prop where
 gr:W.grownBy w none
 rbx:w.heap[rb]? = some (.cells #[.int .i64 rm.k,.string (ofB rm.b),.slice rm.p rm.n rm.c] 198 (0,0))
 row:yl w 198 3 rcE lo mo
 ok:ug rs w mo out
 own_:∀g,lo.ownBlock=some g→W.heap.size≤g∧g≠rb
 rl:W.heap.size≤rb
section
variable {W w w' : World} {rs : Nat → Prop} {rb : Nat} {rm : RcM} {lo v' : Value} {mo : List RcM} {out : List (Int × ye)}
theorem Ur.kept (h:Ur W w rs rb rm lo mo out) (hrs:∀k,rs k→k<W.heap.size) (hg:w.grownBy w' none):Ur W w' rs rb rm lo mo out:=
 ⟨zh h.gr hg,(hg.block _ (Array.getElem?_eq_some_iff.1 h.rbx).1 (by simp)).trans h.rbx,h.row.grown hg (by simp),h.ok.turn (λk hk=>hg.block k (Nat.lt_of_lt_of_le (hrs k hk) h.gr.size) (by simp)),h.own_,h.rl⟩
theorem Ur.app (h:Ur W w rs rb rm lo mo out) (hrs:∀k,rs k→k<W.heap.size) {xm:RcM} {xq:Int × ye} (hx:Jj rs w xm xq) (ha:Yg w 198 3 rcE lo (mo ++ [xm]) v' w'):Ur W w' rs rb rm v' (mo ++ [xm]) (out ++ [xq]):=by
 obtain⟨h1,h2,h3⟩:=ha;have hold:∀k,rs k→w'.heap[k]? = w.heap[k]?:=λk hk=>h2.block k (Nat.lt_of_lt_of_le (hrs k hk) h.gr.size) (λe=>by have:=(h.own_ k e.symm).1;have:=hrs k hk;omega)
 have hrl:=(Array.getElem?_eq_some_iff.1 h.rbx).1;refine⟨xp h.gr h2 (λb hb=>(h.own_ b hb).1),(h2.block _ hrl (λe=>(h.own_ rb e.symm).2 rfl)).trans h.rbx,h1,(h.ok.turn hold).app (ug.one (hx.turn hold)),λg hg=>?_,h.rl⟩
 rcases h3 with e|e
 ·exact h.own_ g (e ▸ hg)
 ·rw[hg] at e
  injection e with e
  have:=h.gr.size
  exact⟨by omega,by omega⟩
end
theorem add_end {L:List (Int × ye)} {r:Int × ye} (h:∀y∈L,y.1<r.1):jp L r=L ++ [r]:=by
 have:=Ju (r:=r) L h [];rw[List.append_nil] at this;rw[this];rfl
def Zs (L:List (Int × ye)) (r:Int × ye) (d:Bool) (i:Nat):List (Int × ye):=if d=true then jp (L.take i) r else L.take i
def Uk (L:List (Int × ye)) (r:Int × ye) (d:Bool) (i:Nat):Prop:=(d=true∧∃y∈L.take i,r.1≤y.1)∨(d=false∧∀y∈L.take i,y.1<r.1)
section
variable {L : List (Int × ye)} {r : Int × ye} {i : Nat}
theorem done_eq (hs:L.Pairwise λa b=>a.1<b.1) (hi:i<L.length) (h:Uk L r d i) (hx:L[i].1=r.1):d=false∧Uk L r true (i+1)∧Zs L r true (i+1)=Zs L r d i ++ [if r.2.2.length<L[i].2.2.length then r else L[i]]:=by
 have htk:L.take (i+1)=L.take i ++ [L[i]]:=List.take_succ_eq_append_getElem hi
 rcases h with ⟨rfl,y,hy,hl⟩|⟨rfl,hall⟩
 ·exfalso
  obtain⟨j,hj,rfl⟩:=List.getElem_of_mem hy;rw[List.length_take] at hj;rw[List.getElem_take] at hl;have:=(List.pairwise_iff_getElem.1 hs) j i (by omega) hi (by omega)
  omega
 ·refine⟨rfl,Or.inl ⟨rfl,L[i],by rw[htk];exact List.mem_append_right _ (List.mem_singleton.2 rfl),by omega⟩,?_⟩
  unfold Zs;rw[if_pos rfl,if_neg (by simp),htk,Ju _ hall,zmb hx]
theorem done_gt (hi:i<L.length) (h:Uk L r d i) (hx:r.1<L[i].1):Uk L r true (i+1)∧Zs L r true (i+1)=(if d=true then Zs L r d i else Zs L r d i ++ [r]) ++ [L[i]]:=by
 have htk:L.take (i+1)=L.take i ++ [L[i]]:=List.take_succ_eq_append_getElem hi;refine⟨Or.inl ⟨rfl,L[i],by rw[htk];exact List.mem_append_right _ (List.mem_singleton.2 rfl),by omega⟩,?_⟩
 rcases h with ⟨rfl,hex⟩|⟨rfl,hall⟩
 ·unfold Zs
  rw[if_pos rfl,if_pos rfl,if_pos rfl,htk,ze7 _ hex]
 ·unfold Zs
  rw[if_pos rfl,if_neg (by simp),if_neg (by simp),htk,Ju _ hall,addR_gt hx]
  simp
theorem done_lt (hs:L.Pairwise λa b=>a.1<b.1) (hi:i<L.length) (h:Uk L r d i) (hx:L[i].1<r.1):Uk L r d (i+1)∧Zs L r d (i+1)=Zs L r d i ++ [L[i]]:=by
 have htk:L.take (i+1)=L.take i ++ [L[i]]:=List.take_succ_eq_append_getElem hi
 rcases h with ⟨rfl,y,hy,hl⟩|⟨rfl,hall⟩
 ·exfalso
  obtain⟨j,hj,rfl⟩:=List.getElem_of_mem hy;rw[List.length_take] at hj;rw[List.getElem_take] at hl;have:=(List.pairwise_iff_getElem.1 hs) j i (by omega) hi (by omega)
  omega
 ·refine⟨Or.inr ⟨rfl,λy hy=>?_⟩,?_⟩
  ·rw[htk] at hy
   rcases List.mem_append.1 hy with h1|h1
   ·exact hall y h1
   ·rw[List.mem_singleton.1 h1];exact hx
  ·unfold Zs
   rw[if_neg (by simp),if_neg (by simp),htk]
theorem zop (h:Uk L r d L.length):jp L r=if d=true then Zs L r d L.length else Zs L r d L.length ++ [r]:=by
 rcases h with ⟨rfl,hex⟩|⟨rfl,hall⟩
 ·unfold Zs
  rw[if_pos rfl,if_pos rfl,List.take_length]
 ·unfold Zs
  rw[List.take_length] at hall;rw[if_neg (by simp),if_neg (by simp),List.take_length,add_end hall]
end
section
variable {rs : Nat → Prop} {W : World} {sb db : Nat} {lv : Value} {ms : List RcM} {L : List (Int × ye)} {next broken : Int}
theorem jb.cells (h:jb rs W sb db lv ms L next broken):W.cell? ⟨sb,0,none⟩=some (.pointer (some ⟨db,0,none⟩))∧W.cell? ⟨sb,1,none⟩=some lv∧W.cell? ⟨sb,2,none⟩=some (.int .i64 next)∧W.cell? ⟨sb,3,none⟩=some (.int .i64 broken)∧∀i,W.frozen? ⟨sb,i,none⟩=false:=by
 have hb:=h.box;refine⟨?_,?_,?_,?_,λi=>?_⟩ <;> simp[World.cell?,World.frozen?,hb]
theorem jb.setL (h:jb rs W sb db lv ms L next broken) {rb:Nat} {rm:RcM} {lo:Value} {mo:List RcM} {out:List (Int × ye)} (ha:Ur W w (λk=>rs k∧k≠sb∧lv.ownBlock≠some k) rb rm lo mo out) :
  jb (ua rs W (w.setCell ⟨sb,1,none⟩ lo)) (w.setCell ⟨sb,1,none⟩ lo) sb db lo mo out next broken∧zm (λk=>k=sb) W (w.setCell ⟨sb,1,none⟩ lo):=by
 have hs:=zv w sb 1 lo;have hsz:w.heap.size=(w.setCell ⟨sb,1,none⟩ lo).heap.size:=by simp[World.setCell]
 have hsl:=h.lt sb h.rsb;have hbx:=(ha.gr.block sb hsl (by simp)).trans h.box
 refine⟨⟨?_,ha.row.grown hs (λg hg e=>by injection e with e;have:=(ha.own_ g hg).1;omega),(ha.ok.turn (λk hk=>hs.block k (Nat.lt_of_lt_of_le (h.lt k hk.1) ha.gr.size) (λe=>hk.2.1 (by injection e)))).mono (λk hk=>⟨Or.inl hk.1,hk.2.1,λe=>by have:=(ha.own_ k e).1;have:=h.lt k hk.1;omega⟩),Or.inl h.rsb,λg hg=>Or.inr ⟨(ha.own_ g hg).1,by rw[←hsz];exact ha.row.lt hg⟩,λk hk=>?_⟩,?_⟩
 ·simp only[World.setCell,Array.getElem?_modify,hbx,if_true,Option.map_some]
  rfl
 ·rcases hk with e|e
  ·rw[←hsz];exact Nat.lt_of_lt_of_le (h.lt k e) ha.gr.size
  ·exact e.2
 ·exact⟨hs.os.trans ha.gr.os,hs.tape.trans ha.gr.tape,hs.output.trans ha.gr.output,Nat.le_trans ha.gr.size hs.size,λk hk hn=>(hs.block k (Nat.lt_of_lt_of_le hk ha.gr.size) (λe=>hn (by injection e))).trans (ha.gr.block k hk (by simp))⟩
set_option maxRecDepth 100000 in
theorem radd (h:jb rs W sb db lv ms L next broken) (hs:L.Pairwise λa b=>a.1<b.1) (hl:L.length≤100000) {rm:RcM} {rq:Int × ye} (hr:Jj (λk=>rs k∧k≠sb∧lv.ownBlock≠some k) W rm rq):Calls Tryz.prog 112 #[.pointer (some ⟨sb,0,none⟩),.agg #[.int .i64 rm.k,.string (ofB rm.b),.slice rm.p rm.n rm.c]] W λe w'=>e = .returned (.tuple #[])∧S19 (ua rs W w') w' sb db (jp L rq) next broken∧zm (λk=>k=sb) W w':=by
 obtain⟨i0,z0,by0,hi,hz0,hz1,hz2,hz3,hz4⟩:=zkd;have hrs:∀k,(λk=>rs k∧k≠sb∧lv.ownBlock≠some k) k→k<W.heap.size:=λk hk=>h.lt k hk.1
 have HRS:=zd hrs;obtain⟨c0,c1,c2,c3,y⟩:=h.cells;have HL:Hid (ms.length=L.length):=(show _=_ from h.ok.len)
 have HSET:Hid (∀w rb lo mo out,Ur W w (λk=>rs k∧k≠sb∧lv.ownBlock≠some k) rb rm lo mo out→S19 (ua rs W (w.setCell ⟨sb,1,none⟩ lo)) (w.setCell ⟨sb,1,none⟩ lo) sb db out next broken∧zm (λk=>k=sb) W (w.setCell ⟨sb,1,none⟩ lo)):=(λw rb lo mo out ha=>by
  have:=h.setL ha
  exact⟨⟨_,_,this.1⟩,this.2⟩)
 have HROW:=zd h.row;have HOK:=zd h.ok;have HSL:=zd (h.lt sb h.rsb);have HR:=zd hr;have HP:=zd hs;obtain⟨p,cap,hlv,-,-⟩:=h.row.form;have HRL:=zd hr.len;have hlm:ms.length≤100000:=by rw[h.ok.len];exact hl
 obtain⟨N,hN⟩:∃N,N=ms.length:=⟨_,rfl⟩;have HN:=zd hN;rw[←hN] at hlm hlv;generalize hQ:(λk=>rs k∧k≠sb∧lv.ownBlock≠some k)=Q at *
 clear h hs hr hN hQ hrs;subst hlv
 go_enter Tryz.func112,Tryz.ntmps112
 go_upto_region 4 with fail
 have h1g:=ze W (.cells #[.int .i64 rm.k,.string (ofB rm.b),.slice rm.p rm.n rm.c] 198) none;have h1n:=heap_alloc_new W (.cells #[.int .i64 rm.k,.string (ofB rm.b),.slice rm.p rm.n rm.c] 198);have HA0:Hid (Ur W (W.alloc (.cells #[.int .i64 rm.k,.string (ofB rm.b),.slice rm.p rm.n rm.c] 198)) Q W.heap.size rm (.slice none 0 0) [] []):=(show Ur _ _ _ _ _ _ _ _ from ⟨h1g,h1n,⟨rfl,Or.inl ⟨rfl,rfl⟩⟩,.nil,λg hg=>by simp[Value.ownBlock] at hg,Nat.le_refl _⟩)
 clear h1g h1n;obtain⟨rb,hrb⟩:∃rb,rb=W.heap.size:=⟨_,rfl⟩;rw[←hrb] at HA0 ⊢;clear hrb
 go_loopw [4,5,6] (λlo d i wr=>∃(j:Nat) (mo:List RcM) (b:Bool),j≤N∧i = .int .i64 j∧d = .bool b∧Uk L rq b j∧mo.length≤2*j∧Ur W wr Q rb rm lo mo (Zs L rq b j)) (λ_ _ i _=>N-(intOf i).toNat)
 case atStart=>exact⟨0,[],false,by omega,rfl,rfl,Or.inr ⟨rfl,by simp⟩,by simp,HA0.out⟩
 case round=>
  clear HA0;obtain⟨j,mo,b,hj,rfl,rfl,hdn,hmo,ha⟩:=hrel;have HDN:=zd hdn;obtain⟨pl,cl,hlo,-,-⟩:=ha.row.form;subst hlo;have HA:=zd ha;have w0:=ha.gr.cell c0 (by simp)
  have w1:=ha.gr.cell c1 (by simp)
  have wf:wr.frozen? ⟨sb,1,none⟩=false:=by
   have hb:=ha.gr.block sb HSL.out (by simp)
   rw[←y 1];unfold World.frozen?;simp only[hb]
  have r0:wr.cell? ⟨rb,0,none⟩=some (.int .i64 rm.k):=(zf ha.rbx 0).trans rfl;have r1:wr.cell? ⟨rb,1,none⟩=some (.string (ofB rm.b)):=(zf ha.rbx 1).trans rfl;have r2:wr.cell? ⟨rb,2,none⟩=some (.slice rm.p rm.n rm.c):=(zf ha.rbx 2).trans rfl;clear ha hdn
  by_cases hjN:j<N
  ·have hjm:j<ms.length:=by rw[←HN.out];exact hjN
   have hjL:j<L.length:=by rw[←HL.out];exact hjm
   have hxo:=HOK.out.get j hjm hjL;have hxo2:Jj Q wr ms[j] L[j]:=hxo.turn (λk hk=>HA.out.gr.block k (HRS.out k hk) (by simp))
   obtain⟨g,hg,x0,x1,x2⟩:∃g,p=some ⟨g,0,none⟩∧wr.cell? ⟨g,j*3,none⟩=some (.int .i64 ms[j].k)∧wr.cell? ⟨g,j*3+1,none⟩=some (.string (ofB ms[j].b))∧wr.cell? ⟨g,j*3+2,none⟩=some (.slice ms[j].p ms[j].n ms[j].c):=by
    rcases yl.at qe HROW.out with e0|⟨g,c,e,hc,_⟩
    ·rw[e0] at hjm;simp at hjm
    ·injection e with e1
     exact⟨g,e1,HA.out.gr.cell (hc j hjm 0 _ rfl) (by simp),HA.out.gr.cell (hc j hjm 1 _ rfl) (by simp),HA.out.gr.cell (hc j hjm 2 _ rfl) (by simp)⟩
   subst hg;have HXO:=zd hxo2;have HXN:=zd hxo2.len;have HXK:Hid (ms[j].k=L[j].1):=(show _=_ from hxo2.1)
   have HRK:Hid (rm.k=rq.1):=(show _=_ from HR.out.1)
   have HEQ:=zd (λhx=>done_eq HP.out hjL HDN.out hx)
   have HGT:=zd (λhx=>done_gt hjL HDN.out hx)
   have HLT:=zd (λhx=>done_lt HP.out hjL HDN.out hx)
   clear hxo hxo2;generalize L[j]=xq at *;generalize ms[j]=xm at *;obtain⟨kx,bx,px,nx,cx⟩:=xm;obtain⟨kr,br,pr,nr,cr⟩:=rm;simp only at *;have hrb1:=xi r0
   rcases Int.lt_trichotomy kx kr with hlt|heq|hgt
   ·have t1:(kx == kr)=false:=by simp;omega
    have t2:decide (kr<kx)=false:=by simp;omega
    have HH:=zd hlt;clear hlt
    go_upto_region 14 with fail
    have hg4:=ze wr (.cells #[.int .i64 kx,.string (ofB bx),.slice px nx cx] 198) none;have hn4:=heap_alloc_new wr (.cells #[.int .i64 kx,.string (ofB bx),.slice px nx cx] 198);generalize wr.alloc (.cells #[.int .i64 kx,.string (ofB bx),.slice px nx cx] 198)=w4 at *;generalize wr.heap.size=xb at *;have HA4:=zd (HA.out.kept HRS.out hg4);have HX4:=zd (HXO.out.turn (λk hk=>hg4.block k (Nat.lt_of_lt_of_le (HRS.out k hk) HA.out.gr.size) (by simp)))
    have HR4:=zd ((HR.out.turn (w':=w4) (λk hk=>(hg4.block k (Nat.lt_of_lt_of_le (HRS.out k hk) HA.out.gr.size) (by simp)).trans (HA.out.gr.block k (HRS.out k hk) (by simp)))))
    have z0':=(zf hn4 0).trans rfl;have z1':=(zf hn4 1).trans rfl;have z2':=(zf hn4 2).trans rfl;have HD:=zd (HLT.out (by rw[←HXK.out,←HRK.out];exact HH.out))
    clear HEQ HGT HLT
    go_wp2_with (at_builtin;refine xn (E:=198) (sz:=3) (enc:=rcE) (v:=.slice pl mo.length cl) (l:=mo) (m:=[⟨kx,bx,px,nx,cx⟩]) _ rfl _ _ 191 rfl qe Zm i0 z0 by0 Tryz.underlying191 hi hz0 hz1 hz2 hz3 (by decide) hz4 rfl (HA4.out.kept HRS.out (ze _ _ none)).row rfl (Yz _ ⟨kx,bx,px,nx,cx⟩) (by simp;omega) (mo.length+1) (by simp) ?_;intro p9 c9 w9 hap;have HAP9:=zd hap;clear hap)
    exact⟨⟨j+1,mo ++ [⟨kx,bx,px,nx,cx⟩],b,by omega,by simp,rfl,HD.out.1,by simp;omega,by rw[HD.out.2];exact(HA4.out.kept HRS.out (ze _ _ none)).app HRS.out (HX4.out.turn (λk hk=>(ze _ _ none).block k (Nat.lt_of_lt_of_le (HRS.out k hk) HA4.out.gr.size) (by simp))) HAP9.out⟩,by simp[intOf];omega⟩
   ·have t1:(kx == kr)=true:=by simp;omega
    have t2:decide (kr<kx)=false:=by simp;omega
    have HH:=zd heq;clear heq;have HE:=zd (HEQ.out (by rw[←HXK.out,←HRK.out];exact HH.out))
    have hbf:=HE.out.1;subst hbf;clear HEQ HGT HLT
    by_cases hn:nr<nx
    ·have HD:Hid (Uk L rq true (j+1)∧Zs L rq true (j+1)=Zs L rq false j ++ [rq]):=(show _∧_ from ⟨HE.out.2.1,by rw[HE.out.2.2,if_pos (by rw[←HRL.out,←HXN.out];exact hn)]⟩)
     have hn':(nr:Int)<(nx:Int):=by omega
     go_upto_region 14 with fail
     have hg4:=ze wr (.cells #[.int .i64 kr,.string (ofB br),.slice pr nr cr] 198) none;have hn4:=heap_alloc_new wr (.cells #[.int .i64 kr,.string (ofB br),.slice pr nr cr] 198);have HLX:Hid (∀g,(Value.slice pl mo.length cl).ownBlock=some g→g≠wr.heap.size):=(λg hg=>by have:=HA.out.row.lt hg;omega)
     generalize wr.alloc (.cells #[.int .i64 kr,.string (ofB br),.slice pr nr cr] 198)=w4 at *;generalize wr.heap.size=xb at *;have HA4:=zd (HA.out.kept HRS.out hg4);have HX4:=zd (HXO.out.turn (λk hk=>hg4.block k (Nat.lt_of_lt_of_le (HRS.out k hk) HA.out.gr.size) (by simp)))
     have HR4:=zd ((HR.out.turn (w':=w4) (λk hk=>(hg4.block k (Nat.lt_of_lt_of_le (HRS.out k hk) HA.out.gr.size) (by simp)).trans (HA.out.gr.block k (HRS.out k hk) (by simp)))))
     have z0':=(zf hn4 0).trans rfl;have z1':=(zf hn4 1).trans rfl;have z2':=(zf hn4 2).trans rfl
     go_wp2_with (at_builtin;refine xn (E:=198) (sz:=3) (enc:=rcE) (v:=.slice pl (mo.length) cl) (l:=mo) (m:=[⟨kr,br,pr,nr,cr⟩]) _ rfl _ _ 191 rfl qe Zm i0 z0 by0 Tryz.underlying191 hi hz0 hz1 hz2 hz3 (by decide) hz4 rfl (HA4.out.kept HRS.out (ze _ _ none)).row rfl (Yz _ ⟨kr,br,pr,nr,cr⟩) (by simp;omega) (mo.length+1) (by simp) ?_;intro p9 c9 w9 hap;have HAP9:=zd hap;clear hap)
     exact⟨⟨j+1,mo ++ [⟨kr,br,pr,nr,cr⟩],true,by omega,by simp,rfl,HD.out.1,by simp;omega,by rw[HD.out.2];exact(HA4.out.kept HRS.out (ze _ _ none)).app HRS.out (HR4.out.turn (λk hk=>(ze _ _ none).block k (Nat.lt_of_lt_of_le (HRS.out k hk) HA4.out.gr.size) (by simp))) HAP9.out⟩,by simp[intOf];omega⟩
    ·have HD:Hid (Uk L rq true (j+1)∧Zs L rq true (j+1)=Zs L rq false j ++ [xq]):=(show _∧_ from ⟨HE.out.2.1,by rw[HE.out.2.2,if_neg (by rw[←HRL.out,←HXN.out];exact hn)]⟩)
     have hn':¬(nr:Int)<(nx:Int):=by omega
     go_upto_region 14 with fail
     have hg4:=ze wr (.cells #[.int .i64 kx,.string (ofB bx),.slice px nx cx] 198) none;have hn4:=heap_alloc_new wr (.cells #[.int .i64 kx,.string (ofB bx),.slice px nx cx] 198);have HLX:Hid (∀g,(Value.slice pl mo.length cl).ownBlock=some g→g≠wr.heap.size):=(λg hg=>by have:=HA.out.row.lt hg;omega)
     generalize wr.alloc (.cells #[.int .i64 kx,.string (ofB bx),.slice px nx cx] 198)=w4 at *;generalize wr.heap.size=xb at *;have HA4:=zd (HA.out.kept HRS.out hg4);have HX4:=zd (HXO.out.turn (λk hk=>hg4.block k (Nat.lt_of_lt_of_le (HRS.out k hk) HA.out.gr.size) (by simp)))
     have HR4:=zd ((HR.out.turn (w':=w4) (λk hk=>(hg4.block k (Nat.lt_of_lt_of_le (HRS.out k hk) HA.out.gr.size) (by simp)).trans (HA.out.gr.block k (HRS.out k hk) (by simp)))))
     have z0':=(zf hn4 0).trans rfl;have z1':=(zf hn4 1).trans rfl;have z2':=(zf hn4 2).trans rfl
     go_wp2_with (at_builtin;refine xn (E:=198) (sz:=3) (enc:=rcE) (v:=.slice pl (mo.length) cl) (l:=mo) (m:=[⟨kx,bx,px,nx,cx⟩]) _ rfl _ _ 191 rfl qe Zm i0 z0 by0 Tryz.underlying191 hi hz0 hz1 hz2 hz3 (by decide) hz4 rfl (HA4.out.kept HRS.out (ze _ _ none)).row rfl (Yz _ ⟨kx,bx,px,nx,cx⟩) (by simp;omega) (mo.length+1) (by simp) ?_;intro p9 c9 w9 hap;have HAP9:=zd hap;clear hap)
     exact⟨⟨j+1,mo ++ [⟨kx,bx,px,nx,cx⟩],true,by omega,by simp,rfl,HD.out.1,by simp;omega,by rw[HD.out.2];exact(HA4.out.kept HRS.out (ze _ _ none)).app HRS.out (HX4.out.turn (λk hk=>(ze _ _ none).block k (Nat.lt_of_lt_of_le (HRS.out k hk) HA4.out.gr.size) (by simp))) HAP9.out⟩,by simp[intOf];omega⟩
   ·have t1:(kx == kr)=false:=by simp;omega
    have t2:decide (kr<kx)=true:=by simp;omega
    have HH:=zd hgt;clear hgt;have HG:=zd (HGT.out (by rw[←HXK.out,←HRK.out];exact HH.out))
    clear HEQ HGT HLT
    cases b
    ·have HD:Hid (Uk L rq true (j+1)∧Zs L rq true (j+1)=Zs L rq false j ++ [rq] ++ [xq]):=(show _∧_ from ⟨HG.out.1,by rw[HG.out.2,if_neg (by simp)]⟩)
     go_upto_region 12 with fail
     have hg4:=ze wr (.cells #[.int .i64 kx,.string (ofB bx),.slice px nx cx] 198) none;have hn4:=heap_alloc_new wr (.cells #[.int .i64 kx,.string (ofB bx),.slice px nx cx] 198);have HLX:Hid (∀g,(Value.slice pl mo.length cl).ownBlock=some g→g≠wr.heap.size):=(λg hg=>by have:=HA.out.row.lt hg;omega)
     generalize wr.alloc (.cells #[.int .i64 kx,.string (ofB bx),.slice px nx cx] 198)=w4 at *;generalize wr.heap.size=xb at *;have HA4:=zd (HA.out.kept HRS.out hg4);have HX4:=zd (HXO.out.turn (λk hk=>hg4.block k (Nat.lt_of_lt_of_le (HRS.out k hk) HA.out.gr.size) (by simp)))
     have HR4:=zd ((HR.out.turn (w':=w4) (λk hk=>(hg4.block k (Nat.lt_of_lt_of_le (HRS.out k hk) HA.out.gr.size) (by simp)).trans (HA.out.gr.block k (HRS.out k hk) (by simp)))))
     have z0':=(zf hn4 0).trans rfl;have z1':=(zf hn4 1).trans rfl;have z2':=(zf hn4 2).trans rfl;have r0':w4.cell? ⟨rb,0,none⟩=some (.int .i64 kr):=(zf HA4.out.rbx 0).trans rfl;have r1':w4.cell? ⟨rb,1,none⟩=some (.string (ofB br)):=(zf HA4.out.rbx 1).trans rfl;have r2':w4.cell? ⟨rb,2,none⟩=some (.slice pr nr cr):=(zf HA4.out.rbx 2).trans rfl;have HN4:=zd hn4;clear hn4 r0 r1 r2
     go_upto_region 14 with (at_builtin;refine xn (E:=198) (sz:=3) (enc:=rcE) (v:=.slice pl (mo.length) cl) (l:=mo) (m:=[⟨kr,br,pr,nr,cr⟩]) _ rfl _ _ 191 rfl qe Zm i0 z0 by0 Tryz.underlying191 hi hz0 hz1 hz2 hz3 (by decide) hz4 rfl (HA4.out.kept HRS.out (ze _ _ none)).row rfl (Yz _ ⟨kr,br,pr,nr,cr⟩) (by simp;omega) (mo.length+1) (by simp) ?_;intro p9 c9 w9 hap;have HAP9:=zd hap;clear hap)
     have HA9:=zd ((HA4.out.kept HRS.out (ze _ _ none)).app HRS.out (HR4.out.turn (λk hk=>(ze _ _ none).block k (Nat.lt_of_lt_of_le (HRS.out k hk) HA4.out.gr.size) (by simp))) HAP9.out)
     have hx9:=(HAP9.out.2.1.block xb (Nat.lt_of_lt_of_le (Array.getElem?_eq_some_iff.1 HN4.out).1 (by simp)) (λe=>HLX.out _ e.symm rfl)).trans (((ze _ _ none).block xb (Array.getElem?_eq_some_iff.1 HN4.out).1 (by simp)).trans HN4.out)
     have z0'':=(zf hx9 0).trans rfl;have z1'':=(zf hx9 1).trans rfl;have z2'':=(zf hx9 2).trans rfl;have HX9:=zd (HX4.out.turn (w':=w9) (λk hk=>(HA9.out.gr.block k (HRS.out k hk) (by simp)).trans (HA4.out.gr.block k (HRS.out k hk) (by simp)).symm))
     clear hx9 z0' z1' z2' r0' r1' r2'
     go_wp2_with (at_builtin;refine xn (E:=198) (sz:=3) (enc:=rcE) (v:=.slice p9 (mo.length+1) c9) (l:=mo ++ [⟨kr,br,pr,nr,cr⟩]) (m:=[⟨kx,bx,px,nx,cx⟩]) _ rfl _ _ 191 rfl qe Zm i0 z0 by0 Tryz.underlying191 hi hz0 hz1 hz2 hz3 (by decide) hz4 rfl (HA9.out.kept HRS.out (ze _ _ none)).row rfl (Yz _ ⟨kx,bx,px,nx,cx⟩) (by simp;omega) (mo.length+1+1) (by simp) ?_;intro p10 c10 w10 hap;have HAP10:=zd hap;clear hap)
     exact⟨⟨j+1,mo ++ [⟨kr,br,pr,nr,cr⟩] ++ [⟨kx,bx,px,nx,cx⟩],true,by omega,by simp,rfl,HD.out.1,by simp;omega,by rw[HD.out.2];exact(HA9.out.kept HRS.out (ze _ _ none)).app HRS.out (HX9.out.turn (λk hk=>(ze _ _ none).block k (Nat.lt_of_lt_of_le (HRS.out k hk) HA9.out.gr.size) (by simp))) HAP10.out⟩,by simp[intOf];omega⟩
    ·have HD:Hid (Uk L rq true (j+1)∧Zs L rq true (j+1)=Zs L rq true j ++ [xq]):=(show _∧_ from ⟨HG.out.1,by rw[HG.out.2,if_pos rfl]⟩)
     go_upto_region 14 with fail
     have hg4:=ze wr (.cells #[.int .i64 kx,.string (ofB bx),.slice px nx cx] 198) none;have hn4:=heap_alloc_new wr (.cells #[.int .i64 kx,.string (ofB bx),.slice px nx cx] 198);have HLX:Hid (∀g,(Value.slice pl mo.length cl).ownBlock=some g→g≠wr.heap.size):=(λg hg=>by have:=HA.out.row.lt hg;omega)
     generalize wr.alloc (.cells #[.int .i64 kx,.string (ofB bx),.slice px nx cx] 198)=w4 at *;generalize wr.heap.size=xb at *;have HA4:=zd (HA.out.kept HRS.out hg4);have HX4:=zd (HXO.out.turn (λk hk=>hg4.block k (Nat.lt_of_lt_of_le (HRS.out k hk) HA.out.gr.size) (by simp)))
     have HR4:=zd ((HR.out.turn (w':=w4) (λk hk=>(hg4.block k (Nat.lt_of_lt_of_le (HRS.out k hk) HA.out.gr.size) (by simp)).trans (HA.out.gr.block k (HRS.out k hk) (by simp)))))
     have z0':=(zf hn4 0).trans rfl;have z1':=(zf hn4 1).trans rfl;have z2':=(zf hn4 2).trans rfl
     go_wp2_with (at_builtin;refine xn (E:=198) (sz:=3) (enc:=rcE) (v:=.slice pl (mo.length) cl) (l:=mo) (m:=[⟨kx,bx,px,nx,cx⟩]) _ rfl _ _ 191 rfl qe Zm i0 z0 by0 Tryz.underlying191 hi hz0 hz1 hz2 hz3 (by decide) hz4 rfl (HA4.out.kept HRS.out (ze _ _ none)).row rfl (Yz _ ⟨kx,bx,px,nx,cx⟩) (by simp;omega) (mo.length+1) (by simp) ?_;intro p9 c9 w9 hap;have HAP9:=zd hap;clear hap)
     exact⟨⟨j+1,mo ++ [⟨kx,bx,px,nx,cx⟩],true,by omega,by simp,rfl,HD.out.1,by simp;omega,by rw[HD.out.2];exact(HA4.out.kept HRS.out (ze _ _ none)).app HRS.out (HX4.out.turn (λk hk=>(ze _ _ none).block k (Nat.lt_of_lt_of_le (HRS.out k hk) HA4.out.gr.size) (by simp))) HAP9.out⟩,by simp[intOf];omega⟩
  ·have hjL:j=L.length:=by rw[←HL.out,←HN.out];omega
   obtain rfl:j=N:=by omega
   have HAL:=zd (zop (hjL ▸ HDN.out));have HAL2:Hid (jp L rq=if b=true then Zs L rq b j else Zs L rq b j ++ [rq]):=(show _=_ from by rw[HAL.out,←hjL])
   clear HAL hjL
   cases b
   ·have HD:Hid (jp L rq=Zs L rq false j ++ [rq]):=(show _=_ from by rw[HAL2.out,if_neg (by simp)])
    go_upto_region 17 with (at_builtin;refine xn (E:=198) (sz:=3) (enc:=rcE) (v:=.slice pl (mo.length) cl) (l:=mo) (m:=[rm]) _ rfl _ _ 191 rfl qe Zm i0 z0 by0 Tryz.underlying191 hi hz0 hz1 hz2 hz3 (by decide) hz4 rfl (HA.out.kept HRS.out (ze _ _ none)).row rfl (Yz _ rm) (by simp;omega) (mo.length+1) (by simp) ?_;intro p9 c9 w9 hap;have HAP9:=zd hap;clear hap)
    have HA9:=zd ((HA.out.kept HRS.out (ze _ _ none)).app HRS.out ((HR.out.turn (λk hk=>HA.out.gr.block k (HRS.out k hk) (by simp))).turn (λk hk=>(ze _ _ none).block k (Nat.lt_of_lt_of_le (HRS.out k hk) HA.out.gr.size) (by simp))) HAP9.out)
    have HS9:=zd (HSET.out _ _ _ _ _ HA9.out);have q1:=HA9.out.gr.cell c1 (by simp)
    have q2:w9.frozen? ⟨sb,1,none⟩=false:=by
     have hb:=HA9.out.gr.block sb HSL.out (by simp)
     rw[←y 1];unfold World.frozen?;simp only[hb]
    go_wp2
    all_goals first|go_end0|refine bodyPost_ret (results_none rfl _ _ _) rfl ?_
    all_goals exact⟨rfl,by rw[HD.out];exact HS9.out.1,HS9.out.2⟩
   ·have HD:Hid (jp L rq=Zs L rq true j):=(show _=_ from by rw[HAL2.out,if_pos rfl])
    have HS9:=zd (HSET.out _ _ _ _ _ HA.out);go_wp2
    all_goals first|go_end0|refine bodyPost_ret (results_none rfl _ _ _) rfl ?_
    all_goals exact⟨rfl,by rw[HD.out];exact HS9.out.1,HS9.out.2⟩
end
noncomputable def opnR18 (R:RDk) (X:List (List Int)):Nat→RDk × Int × Bool
 | 0=>(R,0,false)
 | n+1=>if (opnR18 R X n).2.1≠0 then opnR18 R X n
   else if (saidP zo (fX X n)).isSome=true∨fX X n=zr then opnR18 R X n
   else ((opnR18 R X n).1.written n [],(opnR18 R X n).1.writeV n [],true)
theorem zcg {R:RDk} (h:(opnR18 R X n).2.1≠0):opnR18 R X (n+1)=opnR18 R X n:=by
 conv=>lhs;unfold opnR18
 rw[if_pos h]
theorem zal {R:RDk} (h:(opnR18 R X n).2.1=0) (hc:(saidP zo (fX X n)).isSome=true∨fX X n=zr):opnR18 R X (n+1)=opnR18 R X n:=by
 conv=>lhs;unfold opnR18
 rw[if_neg (λe=>e h),if_pos hc]
theorem zam {R:RDk} (h:(opnR18 R X n).2.1=0) (hc:¬((saidP zo (fX X n)).isSome=true∨fX X n=zr)):opnR18 R X (n+1)=((opnR18 R X n).1.written n [],(opnR18 R X n).1.writeV n [],true):=by
 conv=>lhs;unfold opnR18
 rw[if_neg (λe=>e h),if_neg hc]
theorem zd8 {R:RDk} (h:(opnR18 R X n).2.1≠0):∀m,n≤m→opnR18 R X m=opnR18 R X n
 | 0,hm=>by
  obtain rfl:n=0:=by omega
  rfl
 | m+1,hm=>by
  rcases Nat.lt_or_ge n (m+1) with hl|hl
  ·have ih:=zd8 h m (by omega)
   rw[zcg (by rw[ih];exact h),ih]
  ·obtain rfl:n=m+1:=by omega
   rfl
def RDk.all (R:RDk):List (List Int):=(List.range R.blocks.length).map R.bytes
noncomputable def RDk.opened (R:RDk):RDk × Int:=if R.gone=true then (R,180) else if (opnR18 R R.all R.blocks.length).2.1≠0 then ((opnR18 R R.all R.blocks.length).1,(opnR18 R R.all R.blocks.length).2.1) else if (opnR18 R R.all R.blocks.length).2.2=true then ((opnR18 R R.all R.blocks.length).1.synced,(opnR18 R R.all R.blocks.length).1.syncV) else ((opnR18 R R.all R.blocks.length).1,0)
theorem zcw (R:RDk):R.all.length=R.blocks.length:=by simp[RDk.all]
theorem zgl (R:RDk) {i:Nat} (hi:i<R.all.length):R.all[i]=R.bytes i:=by simp[RDk.all]
theorem zjb {d:Dk} {R:RDk} (h:xh d R) (hw : -1≤d.well):∀n,n≤d.n→(opnR18 R R.all n).2=(opnD d n).2∧xh (opnD d n).1 (opnR18 R R.all n).1∧-1≤(opnD d n).1.well
 | 0,_=>⟨rfl,h,hw⟩
 | n+1,hn=>by
  obtain⟨i1,i2,i3⟩:=zjb h hw n (by omega)
  have hf:fX R.all n=bk d.now n:=by
   have hl:n<R.all.length:=by rw[zcw,h.n];omega
   rw[zhy hl,zgl,Jq h (by omega)]
  by_cases h0:(opnD d n).2.1=0
  ·have h0':(opnR18 R R.all n).2.1=0:=by rw[i1];exact h0
   by_cases hc:(saidP zo (bk d.now n)).isSome=true∨bk d.now n=zr
   ·rw[Za h0 hc,zal h0' (by rw[hf];exact hc)]
    exact⟨i1,i2,i3⟩
   ·have e1:opnD d (n+1)=((opnD d n).1.written n [],(opnD d n).1.writeV n [],true):=by
     conv=>lhs;unfold opnD
     rw[if_neg (λe=>e h0),if_neg hc]
    rw[e1,zam h0' (by rw[hf];exact hc)]
    obtain⟨w1,w2⟩:=Ue i2 i3 (n:Int) [];refine⟨by rw[w1],w2,?_⟩
    have hgo:∀(d:Dk),-1≤d.well→∀i b,-1≤(d.written i b).well:=λd hd i b=>by
     unfold Dk.written
     split
     ·exact hd
     ·split
      ·show -1≤max (-1) (d.well-1);omega
      ·show(-1:Int)≤-1;omega
    exact hgo _ i3 _ _
  ·rw[Qr h0,zcg (by rw[i1];exact h0)]
   exact⟨i1,i2,i3⟩
theorem zcj {d:Dk} {R:RDk} (h:xh d R) (hw : -1≤d.well) (ho:d.off=false):R.opened.2=d.opened.2∧xh d.opened.1 R.opened.1:=by
 obtain⟨i1,i2,i3⟩:=zjb h hw d.n (Nat.le_refl _);have hg:R.gone=false:=by rw[h.gone,ho]
 by_cases h0:(opnD d d.n).2.1=0
 ·have h0':(opnR18 R R.all d.n).2.1=0:=by rw[i1];exact h0
  have d1:d.opened=if (opnD d d.n).2.2=true then ((opnD d d.n).1.synced,(opnD d d.n).1.syncV) else ((opnD d d.n).1,0):=by
   unfold Dk.opened;rw[if_neg (λe=>e h0)]
  have r1:R.opened=if (opnD d d.n).2.2=true then ((opnR18 R R.all d.n).1.synced,(opnR18 R R.all d.n).1.syncV) else ((opnR18 R R.all d.n).1,0):=by
   unfold RDk.opened;rw[if_neg (by simp[hg]),h.n,if_neg (λe=>e h0'),i1]
  rw[d1,r1]
  cases hb:(opnD d d.n).2.2
  ·exact⟨rfl,i2⟩
  ·exact zbu i2 i3
 ·have h0':(opnR18 R R.all d.n).2.1≠0:=by rw[i1];exact h0
  have d1:d.opened=((opnD d d.n).1,(opnD d d.n).2.1):=by
   unfold Dk.opened;rw[if_pos h0]
  have r1:R.opened=((opnR18 R R.all d.n).1,(opnR18 R R.all d.n).2.1):=by
   unfold RDk.opened;rw[if_neg (by simp[hg]),h.n,if_pos h0']
  rw[d1,r1]
  exact⟨by show(opnR18 R R.all d.n).2.1=(opnD d d.n).2.1;rw[i1],i2⟩
structure qg (rsd rss:Nat→Prop) (w:World) (sb db:Nat) (R:RDk) (L:List (Int × ye)) (next broken:Int):Prop where
 d:R18 rsd w db R
 s:S19 rss w sb db L next broken
 ap:∀k,rsd k→¬rss k
def zjo (x:List Int):List Value:=[.string (ofB x)]
theorem zjp (x:List Int):(zjo x).length=1:=rfl
theorem zqa (x:List Int):∀u∈zjo x,u.oneCell'=true:=λu hu=>by
 simp only[zjo,List.mem_cons,List.not_mem_nil,or_false] at hu;subst hu;rfl
theorem zqf (X:World) (x:List Int):Zh (X.alloc (.cells #[.string (ofB x)] 9)) zjo (.slice (some ⟨X.heap.size,0,none⟩) 1 1) [x]:=by
 refine⟨_,1,rfl,Or.inr ⟨_,rfl,λj u hu=>?_⟩⟩
 rw[ut]
 exact(zf (heap_alloc_new X _) j).trans (by simpa[zjo] using hu)
theorem zoj {v:Value} (h:yl w 9 1 zjo v X) (ok:∀x∈X,x.length=256∧BL x) (n:X.length≤4096):Xt w v X:=by
 obtain⟨p,cap,e,hcm,hlc⟩:=h.form;refine⟨⟨p,cap,e,?_⟩,ok,n⟩
 rcases yl.at zjp h with h0|⟨g,c,e2,hc,_⟩
 ·exact Or.inl h0
 ·rw[e2] at e
  injection e with e1
  refine Or.inr ⟨g,0,e1.symm,λi hi=>?_⟩
  have:=hc i hi 0 _ rfl;rw[Nat.mul_one,Nat.add_zero] at this;rw[Nat.zero_add]
  exact this
theorem infoStr:∃(i:TypeInfo) (z:Value) (by_:Nat),Tryz.prog.info? 9=some i∧i.zero=some z∧i.size=1∧i.bytes=by_∧z.cells.size=1∧by_≤1000:=by
 have h:((Tryz.prog.info? 9).bind λi=>i.zero.map λz=>(i.size,decide (i.bytes≤1000),z.cells.size))=some (1,true,1):=by kernel_rfl
 cases hi:Tryz.prog.info? 9 with
 | none=>rw[hi] at h;cases h
 | some i=>
  rw[hi] at h
  cases hz:i.zero with
  | none=>simp[hz] at h
  | some z=>
   simp[hz] at h
   exact⟨i,z,_,rfl,hz,h.1,rfl,h.2.2,h.2.1⟩
def OpnR (rs:Nat→Prop) (W:World) (db:Nat) (R:RDk) (e:Ending) (w':World):Prop:=zm rs W w'∧
 ((R.opened.2≠0∧e = .returned (.tuple #[.pointer none,.int .i64 R.opened.2])∧R18 (ua rs W w') w' db R.opened.1)∨
 (R.opened.2=0∧∃sb rsd rss,e = .returned (.tuple #[.pointer (some ⟨sb,0,none⟩),.int .i64 0])∧qg rsd rss w' sb db R.opened.1 (openR zo (fX R.all) R.blocks.length R.blocks.length) (nextR zo (fX R.all) R.blocks.length) 0∧(∀k,rsd k→ua rs W w' k)∧∀k,rss k→W.heap.size≤k∧k<w'.heap.size))
end Go.Proofs.YtbcbhlfjgobejaaGreat
