/- TableBytes, plain: a table that commands have made is in its ranges, and its bytes are few. Conditions: at most 80 commands, 13 nodes. Rows of commands that came in; large(): the walk. Conditions: a row of commands in memory. play, TablePlays: the walks. Conditions: both tables lie in memory, apart, and go together. TablePlays: the walk: it answers true. Conditions: a row of commands in memory. TableBytes: the three tables in memory. Conditions: none. -/
import Derived.Test.YtjfelfjobeeenaaGreatP40
import Derived.Test.YtjfelfjobeeenaaGreatP41
import Derived.Test.YtjfelfjobeeenaaGreatP20
import Derived.Test.YtjfelfjobeeenaaGreatP37
import Derived.Test.YtjfelfjobeeenaaGreatP31
import Derived.Test.YtjfelfjobeeenaaGreatP36
namespace Go.Proofs.YtjfelfjobeeenaaGreat
set_option linter.unusedVariables false
set_option linter.unusedSimpArgs false
open Go.RowKit Go.Sf Go.Shelf
theorem BL.flat {α:Type} (f:α→List Int) (h:∀a,BL (f a)):∀l:List α,BL (l.flatMap f)
 | []=>fun b hb=>by simp at hb
 | a :: r=>by rw[List.flatMap_cons];exact(h a).app (BL.flat f h r)
theorem e2_BL (x:Int):BL (e2 x):=be_BL _ _
theorem e4_BL (x:Int):BL (e4 x):=be_BL _ _
theorem e8_BL (x:Int):BL (e8 x):=be_BL _ _
theorem eBit_BL (b:Bool):BL (eBit b):=be_BL _ _
theorem eID_BL (i:ID):BL (eID i):=((be_BL _ _).app (strB_BL _)).app (e8_BL _)
theorem callB_BL (p:Int × CallT):BL (callB p):=((((e2_BL _).app (e8_BL _)).app (e8_BL _)).app (eBit_BL _)).app (e2_BL _)
theorem valB_BL (p:ByteArray × Val):BL (valB p):=(eID_BL _).app (eBit_BL _)
theorem pendB_BL (p:ID × Pend):BL (pendB p):=((eID_BL _).app (e2_BL _)).app (e8_BL _)
theorem setB_BL (p:ID × NSet):BL (setB p):=((eID_BL _).app (e2_BL _)).app (BL.flat _ e2_BL _)
theorem rowsH_BL (m:List (ID × NSet)):BL (rowsH m):=(e4_BL _).app (BL.flat _ (fun _=>setB_BL _) _)
theorem encT_BL (T:Tab):BL (encT T):=by
 unfold encT
 refine(((((((((e2_BL _).app (e2_BL _)).app (e8_BL _)).app (e8_BL _)).app (BL.flat _ e8_BL _)).app ?_).app ?_).app ?_).app (rowsH_BL _)).app (rowsH_BL _)
 ·exact(e4_BL _).app (BL.flat _ (fun _=>callB_BL _) _)
 ·exact(e4_BL _).app (BL.flat _ (fun _=>valB_BL _) _)
 ·exact(e4_BL _).app (BL.flat _ (fun _=>pendB_BL _) _)
theorem sum_le {α:Type} (g:α→Nat) (c:Nat):∀l:List α,(∀a∈l,g a≤c)→(l.map g).sum≤c*l.length
 | [],_=>by simp
 | a :: r,h=>by
  have h1:=h a (by simp)
  have h2:=sum_le g c r fun b hb=>h b (List.mem_cons_of_mem _ hb)
  simp only[List.map_cons,List.sum_cons,List.length_cons,Nat.mul_succ]
  omega
section
variable {n k j : Nat} {L : Tab} {R : RTab}
theorem len_keys {K V V':Type} [DecidableEq K] {a:List (K × V)} {b:List (K × V')} (ha:(a.map (·.1)).Nodup) (h:∀p∈a,(mget b p.1).isSome=true):a.length≤b.length:=by
 have:=nodup_len (a.map (·.1)) (b.map (·.1)) ha fun x hx=>by
  obtain⟨p,hp,rfl⟩:=List.mem_map.1 hx
  exact mem_isSome.2 (h p hp)
 simpa using this
theorem len_ids {a:List (ID × NSet)} {l:List RHold} (ha:(a.map (·.1)).Nodup) (h:∀p∈a,∃x∈l,x.id=p.1):a.length≤l.length:=by
 have:=nodup_len (a.map (·.1)) (l.map (·.id)) ha fun x hx=>by
  obtain⟨p,hp,rfl⟩:=List.mem_map.1 hx
  obtain⟨y,hy,e⟩:=h p hp
  exact List.mem_map.2 ⟨y,hy,e⟩
 simpa using this
structure Kept (n k j:Nat) (L:Tab) (R:RTab):Prop where
 both:Both n k j L R
 rng:Rng L
 tidy:Tidy L
 nod:Nod L
theorem mem_of_set {m:List (ID × NSet)} (hn:(m.map (·.1)).Nodup) {p:ID × NSet} (hp:p∈m) (h:p.2.mem≠[]):∃x,x∈memH m p.1:=by
 cases e:p.2.mem with
 | nil=>exact absurd e h
 | cons x r=>exact⟨x,by unfold memH;rw[mget_of_mem hn hp];simp[e]⟩
theorem Kept.lens (h:Kept n k j L R):L.calls.length≤j∧L.values.length≤j∧L.pending.length≤j∧L.holds.length≤j∧L.refuses.length≤j:=by
 have s:=h.both.sim.s0
 have b:=h.both.rb
 have isS:∀{K V:Type} [DecidableEq K] {m m':List (K × V)} (hn:(m.map (·.1)).Nodup) (he:∀i,mget m' i=mget m i) (p:K × V),p∈m→(mget m' p.1).isSome=true:=fun hn he p hp=>by rw[he,mget_of_mem hn hp];rfl
 refine⟨Nat.le_trans (len_keys h.nod.c (isS h.nod.c s.calls)) b.lc,Nat.le_trans (len_keys h.nod.v (isS h.nod.v s.vals)) b.lv,Nat.le_trans (len_keys h.nod.p (isS h.nod.p s.pends)) b.lp,Nat.le_trans (len_ids h.nod.h fun p hp=>?_) b.lh,Nat.le_trans (len_ids h.nod.r fun p hp=>?_) b.lh⟩
 ·obtain⟨x,hx⟩:=mem_of_set h.nod.h hp (h.tidy.h p hp).1
  obtain⟨y,hy,e,_⟩:=(s.hold _ _).1 hx
  exact⟨y,hy,e⟩
 ·obtain⟨x,hx⟩:=mem_of_set h.nod.r hp (h.tidy.r p hp).1
  obtain⟨y,hy,e,_⟩:=(s.refu _ _).1 hx
  exact⟨y,hy,e⟩
theorem Kept.told (h:Kept n k j L R) (hj:j≤900) (cn:clampN n=n) (cw:clampW n k=k):Told n k L:=by
 have l:=h.lens
 have b:=h.both.rb
 have s:=h.both.sim.s0
 have h1:=s.next
 have h2:=s.offers
 have h3:=b.o1
 have h4:=b.x1
 exact⟨h.both.inv,h.rng,h.tidy,h.nod,cn,cw,by omega,by omega,by omega,by omega,by omega,by omega,by omega⟩
theorem Kept.fit (h:Kept n k j L R) (hj:j≤80) (hn:n≤13) (cn:clampN n=n) (cw:clampW n k=k):TFit L∧(encT L).length≤60000:=by
 have l:=h.lens
 have T:=h.told (by omega) cn cw
 have hln:=h.both.inv.ln
 have vs:szV L.values≤74*L.values.length:=sum_le _ 74 _ fun p hp=>by have:=(h.rng.v p hp).2;omega
 have ps:szP L.pending≤83*L.pending.length:=sum_le _ 83 _ fun p hp=>by have:=(h.rng.p p hp).k;omega
 have hs:∀{m:List (ID × NSet)},Mems n m→(∀p∈m,p.1.key.size≤64)→szH m≤101*m.length:=fun {m} hm hk=>sum_le _ 101 _ fun p hp=>by
  have h1:=hk p hp
  have h2:=nodup_range_len n _ (hm.mem p hp).1 (hm.mem p hp).2
  omega
 have hh:=hs h.both.inv.hm fun p hp=>(T.id (h.tidy.h p hp).2).1
 have hr:=hs h.both.inv.rm fun p hp=>(T.pendId (h.tidy.r p hp).2).1
 have cs:szC L.calls=21*L.calls.length:=rfl
 have qh:∀{m:List (ID × NSet)},(m.map (·.1)).Nodup→Mems n m→QH m:=fun {m} hn1 hm=>⟨hn1,fun p hp x hx=>by have:=(hm.mem p hp).2 x hx;omega⟩
 have e8s:(L.lives.flatMap e8).length=8*L.lives.length:=by rw[flatL_len e8 (fun _=>8) _ (fun a=>e8_len a),sum_const]
 have hE:(encT L).length=20+8*L.lives.length+(4+szC L.calls)+(4+szV L.values)+(4+szP L.pending)+(4+szH L.holds)+(4+szH L.refuses):=by
  unfold encT
  simp only[List.length_append,e2_len,e8_len,rowsC_len,rowsV_len,rowsP_len h.nod.p,rowsH_len h.nod.h,rowsH_len h.nod.r,e8s]
 have hlen:(encT L).length≤60000:=by rw[hE];omega
 refine⟨fits_of (l:=encT L) ⟨h.nod.c,fun p hp=>⟨(h.rng.c p hp).c0,(h.rng.c p hp).c1⟩⟩ ⟨h.nod.v,fun p hp=>by have:=(h.rng.v p hp).2;omega⟩ h.nod.p (qh h.nod.h h.both.inv.hm) (qh h.nod.r h.both.inv.rm) (by omega) (by omega) hlen,hlen⟩
theorem Kept.again (h:Kept n k j L R) (hj:j≤80) (hn:n≤13) (cn:clampN n=n) (cw:clampW n k=k):decF (encT L)=some (canon L)∧encT (canon L)=encT L∧Kept n k j (canon L) R∧∀L',decF (encT L)=some L'→TFit L':=by
 have a:=canon_alike h.nod
 have b:=canon_nod h.nod
 exact⟨dec_encT (h.told (by omega) cn cw),canon_enc h.nod,⟨⟨h.both.inv.alike a b,h.both.sim.alike a b,h.both.rb⟩,h.rng.alike a b,h.tidy.alike a b,b⟩,fun L' e=>tfit_dec (encT_BL L) (h.fit hj hn cn cw).2 e⟩
theorem Kept.same {U:Tab} (h:Kept n k j L R) (g:Kept n k j U R):encT L=encT U:=enc_alike (alike_of_sim h.both.inv g.both.inv h.both.sim g.both.sim h.tidy g.tidy) h.nod g.nod
theorem Kept.act {c:Cmd} (h:Kept n k j L R) (hj:j≤900) (hnod:Nod (actT L c)):Kept n k (j+1) (actT L c) (ractT R c):=by
 have h1:=h.both.sim.s0.next
 have h2:=h.both.rb.x1
 exact⟨both_step h.both c,rng_act h.both.inv h.rng (by omega),tidy_act h.tidy c,hnod⟩
end
section
variable {bs : Nat → Prop} {w : World} {tb : Nat} {L : Tab}
theorem At.nod (h:At bs w tb L):Nod L:=by
 obtain⟨T,hT,rfl,_⟩:=h.ex
 refine⟨hT.calls.nodup,hT.values.nodup,hT.pending.nodup,?_,?_⟩
 ·show((nsets T.holds).map (·.1)).Nodup
  rw[keys_nsets];exact hT.holds.nodup
 ·show((nsets T.refuses).map (·.1)).Nodup
  rw[keys_nsets];exact hT.refuses.nodup
theorem bytes_at (h:At bs w tb L) (hf:TFit L):Calls Tryz.prog 40 #[.pointer (some ⟨tb,0,none⟩)] w fun e w'=>∃v,e = .returned v∧w'.ownsRow w.heap.size 5 1 v (encT L).length (bytesV (encT L))∧w.grownBy w' none:=by
 obtain⟨T,hT,rfl,_⟩:=h.ex
 rw[encT_norm]
 exact bytes_any hT hf.of_norm
theorem from_told {n k j:Nat} {R:RTab} {W:World} {v:Value} (h:Kept n k j L R) (hj:j≤80) (hn:n≤13) (cn:clampN n=n) (cw:clampW n k=k) (hv:BRow W.heap.size W v (encT L)):Calls Tryz.prog 41 #[v] W fun e w'=>∃tb',e = .returned (.tuple #[.pointer (some ⟨tb',0,none⟩),.int .i64 0])∧At (fun b=>W.heap.size≤b) w' tb' (canon L)∧W.grownBy w' none:=by
 obtain⟨hd,he,hK,hf⟩:=h.again hj hn cn cw
 refine(from_any hv (encT_BL L) hf).mono ?_
 rintro e w' ⟨hg,⟨tb',T,rfl,h1,h2,h3,h4⟩|⟨_,hr⟩⟩
 ·rw[hd] at h1
  exact⟨tb',rfl,⟨T,h3,(Option.some.inj h1).symm,h4⟩,hg⟩
 ·exact absurd he (hr _ hd)
end
def CmdRow (w:World) (base:Nat) (v:Value) (l:List Cmd):Prop:=
 ∃p cap,v = .slice p l.length cap∧l.length≤9223372036854775807∧(∀c∈l,(c.key.size:Int)≤9223372036854775807)∧(l = []∨∃b off,p=some ⟨b,off,none⟩∧b<base∧∀i,i<l.length→∀j u,(cmdCells (l.getD i wkD))[j]? = some u→w.cell? ⟨b,off+i*8+j,none⟩=some u)
set_option maxHeartbeats 4000000 in
set_option maxRecDepth 100000 in
theorem large_any (v:Value) (l:List Cmd) (base:Nat) (w:World) (h:CmdRow w base v l) :
  Calls Tryz.prog 29 #[v] w fun e w'=>∃r,e = .returned (.bool r)∧w.grownBy w' none∧(r=false→l.length≤80):=by
 obtain⟨p,cap,rfl,hlen,hks,hrow⟩:=h
 rcases Nat.lt_or_ge 80 l.length with h80|h80
 ·clear hrow hks
  go_enter Tryz.func29,Tryz.ntmps29
  go_wp2
  go_ret
  exact⟨true,rfl,grown_refl _,by simp⟩
 ·have HL:Hid (∀r:Bool,r=false→l.length≤80):=fun _ _=>h80
  have HK:=Lib.hid hks
  have HR:=Lib.hid hrow
  clear hks hrow
  generalize hn:l.length=m at *
  go_enter Tryz.func29,Tryz.ntmps29
  go_wp2
  go_loopw [3,4] (fun s i wr=>∃(j:Nat) (x:Int),j≤m∧i = .int .i64 j∧s = .int .i64 x∧0≤x∧x≤2000∧wr=w) (fun _ i _=>m-(intOf i).toNat)
  case atStart=>exact⟨0,0,Nat.zero_le _,rfl,rfl,by omega,by omega,rfl⟩
  case round=>
   obtain⟨j,x,hj,rfl,rfl,hx0,hx1,rfl⟩:=hrel
   rcases Nat.lt_or_ge j m with hlt|hge
   ·rcases HR.out with h0|⟨b,off,rfl,hb,hc⟩
    ·subst h0;simp at hn;omega
    ·have hcell:=hc j hlt 6 _ rfl
     have hk:=HK.out (l.getD j wkD) (by simp only[List.getD_eq_getElem?_getD,List.getElem?_eq_getElem (show j<l.length by omega),Option.getD_some];exact List.getElem_mem _)
     clear hc HR
     generalize l.getD j wkD=c at *
     obtain⟨kind,node,client,inc,req,ver,key,code⟩:=c
     simp only at hcell hk
     generalize hks:(key.size:Int)=ks at *
     have hk0:0≤ks:=by omega
     by_cases hgt:2000-x<ks
     ·go_wp2
      go_ret
      exact⟨true,rfl,grown_refl _,by simp⟩
     ·go_wp2
      go_roundw
      case rel=>exact⟨j+1,x+ks,by omega,rfl,by simp,by omega,by omega,by simp⟩
      case measure=>simp[intOf];omega
   ·go_wp2
    go_ret
    exact⟨false,rfl,grown_refl _,HL.out _⟩
set_option maxHeartbeats 1000000 in
set_option maxRecDepth 100000 in
theorem plainC_any (c:Cmd) (W:World):Calls Tryz.prog 12 #[encCmd c] W fun e w'=>e = .returned (encCmd c)∧W.grownBy w' none:=by
 simp only[encCmd]
 go_enter Tryz.func12,Tryz.ntmps12
 go_wp2
 refine bodyPost_ret (v:=encCmd c) (by simp[encCmd,results,Tryz.results12,go_sem]) rfl ⟨rfl,by repeat (first|exact grown_refl _|exact World.grownBy_alloc _ _ _|refine grown_alloc ?_ _|refine grown_drew ?_)⟩
theorem Duo.kept {w0 W W':World} {own:Nat→Prop} {tb rb:Nat} {L:Tab} {R:RTab} (h:Duo w0 own tb rb L R W) (hg:W.grownBy W' none):Same own W W':=fun k hk=>hg.block k (h.lt k hk) (by simp)
theorem Same.sub {own own':Nat→Prop} {W W':World} (h:Same own W W') (hs:∀k,own' k→own k):Same own' W W':=fun k hk=>h k (hs k hk)
theorem cmd8 {w:World} {b:Nat} {a0 a1 a2 a3 a4 a5 a6 a7:Value} {t:TypeId} (h:w.heap[b]? = some (.cells #[a0,a1,a2,a3,a4,a5,a6,a7] t (0,0))) :
  w.cell? ⟨b,0,none⟩=some a0∧w.cell? ⟨b,1,none⟩=some a1∧w.cell? ⟨b,2,none⟩=some a2∧w.cell? ⟨b,3,none⟩=some a3∧w.cell? ⟨b,4,none⟩=some a4∧w.cell? ⟨b,5,none⟩=some a5∧w.cell? ⟨b,6,none⟩=some a6∧w.cell? ⟨b,7,none⟩=some a7:=
 ⟨(cell_block h 0).trans rfl,(cell_block h 1).trans rfl,(cell_block h 2).trans rfl,(cell_block h 3).trans rfl,(cell_block h 4).trans rfl,(cell_block h 5).trans rfl,(cell_block h 6).trans rfl,(cell_block h 7).trans rfl⟩
section
variable {w0 W : World} {own : Nat → Prop} {tb rb : Nat} {L : Tab} {R : RTab}
set_option maxHeartbeats 8000000 in
set_option maxRecDepth 100000 in
theorem play_any {n k j:Nat} (h:Duo w0 own tb rb L R W) (hb:Both n k j L R) (hn:n≤1000) (hk:k≤1000) (hj:j≤900) (kind node client inc req ver:Int) (key:ByteArray) (code:Int) (hkey:(key.size:Int)≤9223372036854775807) :
  Calls Tryz.prog 39 #[.pointer (some ⟨tb,0,none⟩),.pointer (some ⟨rb,0,none⟩),.agg #[.int .u8 kind,.int .i64 node,.int .i64 client,.int .i64 inc,.int .i64 req,.int .i64 ver,.string key,.int .i64 code]] W fun e w'=>
   e = .returned (.bool true)∧Duo w0 own tb rb (actT L ⟨kind,node,client,inc,req,ver,key,code⟩) (ractT R ⟨kind,node,client,inc,req,ver,key,code⟩) w'∧Same own W w':=by
 obtain⟨c,hc⟩:∃c:Cmd,c=⟨kind,node,client,inc,req,ver,key,code⟩:=⟨_,rfl⟩
 have hkc:(c.key.size:Int)≤9223372036854775807:=by rw[hc];exact hkey
 have hcv:encCmd c = .agg #[.int .u8 kind,.int .i64 node,.int .i64 client,.int .i64 inc,.int .i64 req,.int .i64 ver,.string key,.int .i64 code]:=by rw[hc];rfl
 have hcn:c.node=node:=by rw[hc]
 have HPL:Hid (∀W',Calls Tryz.prog 12 #[.agg #[.int .u8 kind,.int .i64 node,.int .i64 client,.int .i64 inc,.int .i64 req,.int .i64 ver,.string key,.int .i64 code]] W' fun e w'=>e = .returned (.agg #[.int .u8 kind,.int .i64 node,.int .i64 client,.int .i64 inc,.int .i64 req,.int .i64 ver,.string key,.int .i64 code])∧W'.grownBy w' none):=(show ∀_,_ from fun W'=>by have:=plainC_any c W';rw[hcv] at this;exact this)
 have HMY:Hid (∀W',Calls Tryz.prog 11 #[.agg #[.int .u8 kind,.int .i64 node,.int .i64 client,.int .i64 inc,.int .i64 req,.int .i64 ver,.string key,.int .i64 code]] W' fun e w'=>e = .returned (.bool (mayB c))∧W'.grownBy w' none):=(show ∀_,_ from fun W'=>by have:=rmay_any c hkc W';rw[hcv] at this;exact this)
 have hN:=hb.sim.s0.N
 have hln:=hb.inv.ln
 have hx1:=hb.rb.x1
 have ho1:=hb.rb.o1
 have hnx:=hb.sim.s0.next
 have hof:=hb.sim.s0.offers
 have HDT:Hid (∀(own':Nat→Prop) (W':World),Duo w0 own' tb rb L R W'→Calls Tryz.prog 22 #[.pointer (some ⟨tb,0,none⟩),.agg #[.int .u8 kind,.int .i64 node,.int .i64 client,.int .i64 inc,.int .i64 req,.int .i64 ver,.string key,.int .i64 code]] W' fun e w'=>e = .returned (.int .i64 (if mayB c=true∧node<R.N then 0 else 2))∧Duo w0 own' tb rb (actT L c) R w'∧Same own' W' w'):=(show ∀(_:Nat→Prop) (_:World),_→Calls _ _ _ _ _ from fun own' W' hp=>by
  have:=hp.doT hb.inv (by omega) (by omega) (by omega) c hkc
  rw[hcv,hcn,←hN] at this
  exact this)
 have HDR:Hid (mayB c=true→node<R.N→∀(own':Nat→Prop) (W':World) (L':Tab),Duo w0 own' tb rb L' R W'→Calls Tryz.prog 60 #[.pointer (some ⟨rb,0,none⟩),.agg #[.int .u8 kind,.int .i64 node,.int .i64 client,.int .i64 inc,.int .i64 req,.int .i64 ver,.string key,.int .i64 code]] W' fun e w'=>e = .returned (.tuple #[])∧Duo w0 own' tb rb L' (rdo R c) w'∧Same own' W' w'):=(show _→_→∀(_:Nat→Prop) (_:World) (_:Tab),_→Calls _ _ _ _ _ from fun hm hlt own' W' L' hp=>by
  have hkd:=may_kind hm
  have hok:=hb.rb.rok (by omega) hb.inv hb.sim hn hk
  have:=hp.doR hok c hkd.1 hkd.2.1 hkd.2.2 (by rw[hcn,←hok.nn];exact hlt)
  rw[hcv] at this
  exact this)
 have HBS:Hid (Both n k (j+1) (actT L c) (ractT R c)):=(show Both _ _ _ _ _ from both_step hb c)
 have HTE:Hid (∀(own':Nat→Prop) (W':World),Duo w0 own' tb rb (actT L c) (ractT R c) W'→Calls Tryz.prog 83 #[.pointer (some ⟨tb,0,none⟩),.pointer (some ⟨rb,0,none⟩),.agg #[.int .u8 kind,.int .i64 node,.int .i64 client,.int .i64 inc,.int .i64 req,.int .i64 ver,.string key,.int .i64 code]] W' fun e w'=>e = .returned (.bool true)∧W'.grownBy w' none):=(show ∀(_:Nat→Prop) (_:World),_→Calls _ _ _ _ _ from fun own' W' hp=>tells_any (hp.telling HBS.out hn hk (by omega)) hp.tlt.1 hp.tlt.2 kind node client inc req ver code key)
 have HRA:Hid (ractT R c=if mayB c=true∧node<R.N then rdo R c else R):=(show _=_ from by unfold ractT;rw[hcn])
 have HC0:Hid (W.cell? ⟨rb,0,none⟩=some (.int .i64 R.N)):=(show _=_ from (h.telling hb hn hk (by omega)).rc0)
 have HP:=Lib.hid h
 have htb:=h.tlt.1
 have hrb:=h.tlt.2
 rw[←hc]
 clear h hb hN hln hx1 ho1 hnx hof hcn hcv hkc hc HBS
 generalize actT L c=L2 at *
 generalize ractT R c=R2 at *
 generalize rdo R c=R3 at *
 generalize hmb:mayB c=mb at *
 clear hmb
 generalize R.N=N at *
 go_enter Tryz.func39,Tryz.ntmps39
 go_upto_region 1 with fail
 have HG0:=Lib.hid (World.grownBy_alloc W (.cells #[.int .u8 kind,.int .i64 node,.int .i64 client,.int .i64 inc,.int .i64 req,.int .i64 ver,.string key,.int .i64 code] 24) none)
 have HB0:=Lib.hid (heap_alloc_new W (.cells #[.int .u8 kind,.int .i64 node,.int .i64 client,.int .i64 inc,.int .i64 req,.int .i64 ver,.string key,.int .i64 code] 24))
 have HS0:=Lib.hid (HP.out.fresh HG0.out W.heap.size (Nat.le_refl _) (by simp))
 have lcb:W.heap.size<(W.alloc (.cells #[.int .u8 kind,.int .i64 node,.int .i64 client,.int .i64 inc,.int .i64 req,.int .i64 ver,.string key,.int .i64 code] 24)).heap.size:=by simp
 have lrb:rb<(W.alloc (.cells #[.int .u8 kind,.int .i64 node,.int .i64 client,.int .i64 inc,.int .i64 req,.int .i64 ver,.string key,.int .i64 code] 24)).heap.size:=by simp;omega
 generalize W.alloc (.cells #[.int .u8 kind,.int .i64 node,.int .i64 client,.int .i64 inc,.int .i64 req,.int .i64 ver,.string key,.int .i64 code] 24)=wa at *
 have HCB:Hid (∀k,own k→k<W.heap.size):=(show ∀_,_→_ from HP.out.lt)
 generalize hcb:W.heap.size=cb at *
 clear hcb
 obtain⟨d0,d1,d2,d3,d4,d5,d6,d7⟩:=cmd8 HB0.out
 have r0:wa.cell? ⟨rb,0,none⟩=some (.int .i64 N):=HG0.out.cell HC0.out (by simp)
 go_cut [7] (fun s wx=>s = .bool (mb && decide (node<N))∧wa.grownBy wx none)
 case first=>
  cases mb with
  | false=>
   refine wp_region_quiet_ext (by kernel_rfl) (by kernel_rfl) ?_
   repeat (any_goals (first|go_big_quiet_step ((first|(go_at_call 12;exact calls_ext (HPL.out _))|(go_at_call 11;exact calls_ext (HMY.out _))))|quiet_step ((first|(go_at_call 12;exact calls_ext (HPL.out _))|(go_at_call 11;exact calls_ext (HMY.out _))))))
   refine wpQuiet_nil ?_
   intro _ hw'
   obtain⟨x,hw''⟩:=hw'
   subst hw''
   go_wp2_with fail
   go_meet
   exact⟨rfl,grown_ext wa x⟩
  | true=>
   generalize hbl:decide (node<N)=bl at *
   refine wp_region_quiet_ext (by kernel_rfl) (by kernel_rfl) ?_
   repeat (any_goals (first|go_big_quiet_step ((first|(go_at_call 12;exact calls_ext (HPL.out _))|(go_at_call 11;exact calls_ext (HMY.out _))))|quiet_step ((first|(go_at_call 12;exact calls_ext (HPL.out _))|(go_at_call 11;exact calls_ext (HMY.out _))))))
   refine wpQuiet_nil ?_
   intro _ hw'
   obtain⟨x,hw''⟩:=hw'
   subst hw''
   go_wp2_with fail
   go_meet
   exact⟨by simp,grown_ext wa x⟩
 case rest=>
  obtain⟨rfl,hgc⟩:=hcut
  have HS1:=Lib.hid (HS0.out.grown hgc)
  have HB1:=Lib.hid ((hgc.block cb lcb (by simp)).trans HB0.out)
  have HK1:=Lib.hid hgc
  clear d0 d1 d2 d3 d4 d5 d6 d7 r0 hgc
  obtain⟨d0,d1,d2,d3,d4,d5,d6,d7⟩:=cmd8 HB1.out
  by_cases hm:mb=true∧node<N
  ·have hq:(mb && decide (node<N))=true:=by simp[hm.1,hm.2]
   have HDR2:=Lib.hid (HDR.out hm.1 hm.2)
   have HR2:Hid (R2=R3):=(show _=_ from by rw[HRA.out,if_pos hm])
   have HDT2:=Lib.hid (HDT.out _ wc HS1.out)
   rw[if_pos hm] at HDT2
   rw[hq]
   clear HDR HRA HDT hm hq
   rw[HR2.out] at HTE
   go_upto_region 3 with (go_at_call 22;refine HDT2.out.mono ?_;rintro e w2 ⟨rfl,hp,hs⟩;have HP2:=Lib.hid hp;have HSM:=Lib.hid hs;clear hp hs)
   have HB2:=Lib.hid ((HSM.out cb (Or.inr rfl)).trans HB1.out)
   clear d0 d1 d2 d3 d4 d5 d6 d7
   obtain⟨d0,d1,d2,d3,d4,d5,d6,d7⟩:=cmd8 HB2.out
   go_upto_region 5 with (first
    | (go_at_call 12;refine(HPL.out _).mono ?_;rintro e w3 ⟨rfl,hg⟩;have HG3:=Lib.hid hg;clear hg)
    | (go_at_call 60;refine(HDR2.out _ _ _ (HP2.out.grown HG3.out)).mono ?_;rintro e w4 ⟨rfl,hp,hs⟩;have HP4:=Lib.hid hp;have HS4:=Lib.hid hs;clear hp hs))
   have HB4:=Lib.hid ((HS4.out cb (Or.inr rfl)).trans ((HP2.out.kept HG3.out cb (Or.inr rfl)).trans HB2.out))
   clear d0 d1 d2 d3 d4 d5 d6 d7
   obtain⟨d0,d1,d2,d3,d4,d5,d6,d7⟩:=cmd8 HB4.out
   go_wp2_with (go_at_call 83;refine(HTE.out _ _ HP4.out).mono ?_;rintro e w5 ⟨rfl,hg⟩;have HG5:=Lib.hid hg;clear hg)
   go_ret
   refine⟨rfl,?_,?_⟩
   ·rw[HR2.out]
    exact(HP4.out.grown HG5.out).less fun k hk=>Or.inl hk
   ·refine(HP.out.kept (grown_trans HG0.out HK1.out)).trans ((HSM.out.sub fun k hk=>Or.inl hk).trans (((HP2.out.kept HG3.out).sub fun k hk=>Or.inl hk).trans ((HS4.out.sub fun k hk=>Or.inl hk).trans ((HP4.out.kept HG5.out).sub fun k hk=>Or.inl hk))))
  ·have hq:(mb && decide (node<N))=false:=by
    cases mb <;> simp at hm ⊢;omega
   have HR2:Hid (R2=R):=(show _=_ from by rw[HRA.out,if_neg hm])
   have HDT2:=Lib.hid (HDT.out _ wc HS1.out)
   rw[if_neg hm] at HDT2
   rw[hq]
   clear HDR HRA HDT hm hq
   rw[HR2.out] at HTE
   go_upto_region 3 with (go_at_call 22;refine HDT2.out.mono ?_;rintro e w2 ⟨rfl,hp,hs⟩;have HP2:=Lib.hid hp;have HSM:=Lib.hid hs;clear hp hs)
   have HB2:=Lib.hid ((HSM.out cb (Or.inr rfl)).trans HB1.out)
   clear d0 d1 d2 d3 d4 d5 d6 d7
   obtain⟨d0,d1,d2,d3,d4,d5,d6,d7⟩:=cmd8 HB2.out
   go_wp2_with (go_at_call 83;refine(HTE.out _ _ HP2.out).mono ?_;rintro e w5 ⟨rfl,hg⟩;have HG5:=Lib.hid hg;clear hg)
   go_ret
   refine⟨rfl,?_,?_⟩
   ·rw[HR2.out]
    exact(HP2.out.grown HG5.out).less fun k hk=>Or.inl hk
   ·refine(HP.out.kept (grown_trans HG0.out HK1.out)).trans ((HSM.out.sub fun k hk=>Or.inl hk).trans ((HP2.out.kept HG5.out).sub fun k hk=>Or.inl hk))
end
structure Trio (w0:World) (own:Nat→Prop) (tb ub rb:Nat) (L U:Tab) (R:RTab) (W:World):Prop where
 duo:Duo w0 own tb rb L R W
 u:At own W ub U
 lo:∀k,own k→w0.heap.size≤k
section
variable {w0 W W' : World} {own : Nat → Prop} {tb ub rb g : Nat} {L U L' : Tab} {R : RTab} {n k j : Nat}
theorem Trio.grown (h:Trio w0 own tb ub rb L U R W) (hg:W.grownBy W' none):Trio w0 own tb ub rb L U R W':=⟨h.duo.grown hg,h.u.grown hg,h.lo⟩
theorem Duo.turn (h:Duo w0 own tb rb L R W) (ht:Turn own W W') (hlo:∀k,own k→w0.heap.size≤k):Duo w0 own tb rb L R W':=by
 obtain⟨q,h1,h2,h3⟩:=h.ex
 refine⟨⟨q,h1.same fun k hk hb=>ht.block k hk hb.2.1,RAt.turn (cs:=fun _=>True) h2 fun k hk hb=>ht.block k hk (h3 k hb.2).2,fun k hk=>⟨Nat.lt_of_lt_of_le (h3 k hk).1 ht.size,(h3 k hk).2⟩⟩,fun k hk=>Nat.lt_of_lt_of_le (h.lt k hk) ht.size,grown_of_turn h.base ht fun k hk e=>by have:=hlo k e;omega⟩
structure TrioX (w0:World) (own:Nat→Prop) (tb ub rb g:Nat) (L U:Tab) (R:RTab) (W:World):Prop where
 duo:Duo w0 (fun k=>own k∨k=g) tb rb L R W
 u:At own W ub U
 lo:∀k,own k→w0.heap.size≤k
 ng:¬own g
 hg:w0.heap.size≤g
theorem Trio.fresh (h:Trio w0 own tb ub rb L U R W) (hg:W.grownBy W' none) (g:Nat) (hge:W.heap.size≤g) (hlt:g<W'.heap.size):TrioX w0 own tb ub rb g L U R W':=
 ⟨h.duo.fresh hg g hge hlt,h.u.grown hg,h.lo,fun e=>by have:=h.duo.lt g e;omega,Nat.le_trans h.duo.base.size hge⟩
theorem TrioX.grown (h:TrioX w0 own tb ub rb g L U R W) (hg:W.grownBy W' none):TrioX w0 own tb ub rb g L U R W':=⟨h.duo.grown hg,h.u.grown hg,h.lo,h.ng,h.hg⟩
theorem TrioX.less (h:TrioX w0 own tb ub rb g L U R W):Trio w0 own tb ub rb L U R W:=⟨h.duo.less fun k hk=>Or.inl hk,h.u,h.lo⟩
theorem TrioX.turn (h:TrioX w0 own tb ub rb g L U R W) (ht:Turn (fun k=>k=g) W W'):TrioX w0 own tb ub rb g L U R W':=
 ⟨h.duo.turn (ht.wide fun k e=>Or.inr e) (fun k hk=>hk.elim (h.lo k) (fun e=>by rw[e];exact h.hg)),h.u.same fun k hk ho=>ht.block k hk (fun e=>h.ng (by have e2:k=g:=e;rw[←e2];exact ho)),h.lo,h.ng,h.hg⟩
theorem TrioX.swap {tb':Nat} (h:TrioX w0 own tb ub rb g L U R W) (hg:W.grownBy W' none) (hA:At (fun b=>W.heap.size≤b) W' tb' L'):TrioX w0 own tb' ub rb g L' U R W':=by
 obtain⟨q,h1,h2,h3⟩:=h.duo.ex
 refine⟨⟨⟨q,hA.mono fun k _ hb=>⟨Nat.le_trans h.duo.base.size hb,fun e=>by have:=h.duo.lt k e;omega,fun e=>by have:=(h3 k e).1;omega⟩,h2.grown hg,fun k hk=>⟨Nat.lt_of_lt_of_le (h3 k hk).1 hg.size,(h3 k hk).2⟩⟩,fun k hk=>Nat.lt_of_lt_of_le (h.duo.lt k hk) hg.size,grown_trans h.duo.base hg⟩,h.u.grown hg,h.lo,h.ng,h.hg⟩
theorem Trio.doU (h:Trio w0 own tb ub rb L U R W) (hI:Inv n k U) (hn:n≤1000000) (ho:U.offers<1000000) (hx:U.next<1000000) (c:Cmd) (hkey:(c.key.size:Int)≤9223372036854775807) :
  Calls Tryz.prog 22 #[.pointer (some ⟨ub,0,none⟩),encCmd c] W fun e w'=>(∃z,e = .returned (.int .i64 z))∧∃own',Trio w0 own' tb ub rb L (actT U c) R w':=by
 refine(do_act (bs:=fun k=>own k∨W.heap.size≤k) (h.u.mono fun k _ hk=>Or.inl hk) hI hn ho hx c hkey (fun k hk=>Or.inr hk)).mono ?_
 rintro e w' ⟨rfl,hA,hO⟩
 refine⟨⟨_,rfl⟩,fun k=>own k∨(W.heap.size≤k∧k<w'.heap.size),?_⟩
 obtain⟨q,h1,h2,h3⟩:=h.duo.ex
 have hnb:∀k,k<W.heap.size→¬own k→w'.heap[k]? = W.heap[k]?:=fun k hk hn=>hO.block k hk (fun e=>e.elim hn (fun e=>by omega))
 have hlo:∀k,(own k∨(W.heap.size≤k∧k<w'.heap.size))→w0.heap.size≤k:=fun k hk=>hk.elim (h.lo k) (fun e=>Nat.le_trans h.duo.base.size e.1)
 refine⟨⟨⟨q,?_,?_,fun k hk=>⟨Nat.lt_of_lt_of_le (h3 k hk).1 hO.size,fun e=>e.elim (h3 k hk).2 (fun e=>by have:=(h3 k hk).1;omega)⟩⟩,fun k hk=>hk.elim (fun e=>Nat.lt_of_lt_of_le (h.duo.lt k e) hO.size) (fun e=>e.2),?_⟩,hA.mono fun k hk hb=>hb.imp id (fun e=>⟨e,hk⟩),hlo⟩
 ·exact(h1.mono (cs:=fun k=>w0.heap.size≤k∧(¬own k∧k<W.heap.size)∧¬q k) fun k hk hb=>⟨hb.1,⟨hb.2.1,hk⟩,hb.2.2⟩).same (fun k hk hb=>hnb k hk hb.2.1.1) |>.mono fun k _ hb=>⟨hb.1,fun e=>e.elim hb.2.1.1 (fun e=>by have:=hb.2.1.2;omega),hb.2.2⟩
 ·exact RAt.turn (cs:=fun _=>True) h2 fun k hk hb=>hnb k hk (h3 k hb.2).2
 ·exact⟨hO.os.trans h.duo.base.os,hO.tape.trans h.duo.base.tape,hO.output.trans h.duo.base.output,Nat.le_trans h.duo.base.size hO.size,fun k hk _=>(hnb k (Nat.lt_of_lt_of_le hk h.duo.base.size) (fun e=>by have:=h.lo k e;omega)).trans (h.duo.base.block k hk (by simp))⟩
theorem Trio.play (h:Trio w0 own tb ub rb L U R W) (hb:Both n k j L R) (hn:n≤1000) (hk:k≤1000) (hj:j≤900) (kind node client inc req ver:Int) (key:ByteArray) (code:Int) (hkey:(key.size:Int)≤9223372036854775807) :
  Calls Tryz.prog 39 #[.pointer (some ⟨tb,0,none⟩),.pointer (some ⟨rb,0,none⟩),.agg #[.int .u8 kind,.int .i64 node,.int .i64 client,.int .i64 inc,.int .i64 req,.int .i64 ver,.string key,.int .i64 code]] W fun e w'=>
   e = .returned (.bool true)∧Trio w0 own tb ub rb (actT L ⟨kind,node,client,inc,req,ver,key,code⟩) U (ractT R ⟨kind,node,client,inc,req,ver,key,code⟩) w':=by
 refine(play_any h.duo hb hn hk hj kind node client inc req ver key code hkey).mono ?_
 rintro e w' ⟨rfl,hp,hs⟩
 exact⟨rfl,hp,h.u.same fun k _ ho=>hs k ho,h.lo⟩
theorem Duo.atT (h:Duo w0 own tb rb L R W):∃bs,At bs W tb L:=by obtain⟨q,h1,_⟩:=h.ex;exact⟨_,h1⟩
theorem Trio.bytesT (h:Trio w0 own tb ub rb L U R W) (hf:TFit L):Calls Tryz.prog 40 #[.pointer (some ⟨tb,0,none⟩)] W fun e w'=>∃v,e = .returned v∧w'.ownsRow W.heap.size 5 1 v (encT L).length (bytesV (encT L))∧W.grownBy w' none:=by
 obtain⟨bs,hA⟩:=h.duo.atT
 exact bytes_at hA hf
end
end Go.Proofs.YtjfelfjobeeenaaGreat
