/- SlotsKeeps: what Put and Remove leave, on a disk that may fail. Plain laws. Conditions: as the theorems say. Calls that came in; large(): the walk. Conditions: a row of calls in memory. A call's bytes, so many times: the walk. Conditions: a call that may be. Rows of what a store has to have; without(): the walk. Conditions: rows in memory. A store beside protected blocks: what its calls leave; the same, for loops. Conditions: as the theorems say. -/
import Derived.Test.YtbcbhlfjgobejaaGreatG29
import Derived.Test.YtbcbhlfjgobejaaGreatG19
set_option linter.unusedSimpArgs false
set_option linter.unusedVariables false
namespace Go.Proofs.YtbcbhlfjgobejaaGreat
open Go.Sf
theorem putWs_mem {k:Int} {b:List Int} {fr:List Nat} {w:Nat × List Int} (h:w∈putWs crcB k b fr):w.1∈fr∧w.2.length=256:=by
 unfold putWs at h
 obtain⟨j,hj,rfl⟩:=List.mem_map.1 h
 have hj:=List.mem_range.1 hj
 refine⟨?_,encP_len (by exact chunk_le b j)⟩
 simp only
 rw[List.getD_eq_getElem?_getD,List.getElem?_eq_getElem hj,Option.getD_some]
 exact List.getElem_mem hj
theorem KInv.put {S:Sto} {all:List (Int × List Int)} {blk:Int→List Nat} (h:KInv S all blk) (hn:S.next≤4611686018427387904) {b:List Int} (hb:b.length≤131072) :
  S.put b=(S,0,181)∨
  (∃S' blk',S.put b=(S',S.next,0)∧KInv S' (all ++ [(S.next,b)]) blk'∧S'.next=S.next+1∧S'.d.n=S.d.n)∨
  (∃S',S.put b=(S',0,180)∧KBad S'.d S.d.n (all ++ [(S.next,b)]) all (S.next+1)):=by
 obtain⟨fr,hfr⟩:∃fr,fr=freeP S.taken (partsN b.length) S.taken.length:=⟨_,rfl⟩
 have hlt:∀i∈fr,i<S.d.n∧S.taken[i]? = some false:=fun i hi=>by
  rw[hfr] at hi
  have:=freeP_lt hi
  rw[h.tl] at this
  exact this
 have hnd:fr.Nodup:=by rw[hfr];exact freeP_nodup _ _ _
 unfold Sto.put
 rw[if_neg (by simp[h.brk]),if_neg (by omega),←hfr]
 by_cases hf:fr.length<partsN b.length
 ·rw[if_pos hf]
  exact Or.inl rfl
 ·rw[if_neg hf]
  right
  have hfl:fr.length=partsN b.length:=by
   have:=(freeP_len S.taken (partsN b.length) S.taken.length).1
   rw[←hfr] at this
   omega
  have hff:∀q∈all,∀i∈fr,i ∉ blk q.1:=fun q hq i hi hm=>by
   have h1:=h.tak q hq i hm
   rw[(hlt i hi).2] at h1
   cases h1
  obtain⟨ws,hws⟩:∃ws,ws=putWs crcB S.next b fr:=⟨_,rfl⟩
  have hpl:partsN b.length≤570:=by unfold partsN;omega
  have hwl:ws.length=fr.length:=by rw[hws];unfold putWs;simp
  have hbad:∀d':Dk,d'.off=true→d'.n=S.d.n→(∃m,d'.late=lates (ws.take m))→d'.st=S.d.st→KBad d' S.d.n (all ++ [(S.next,b)]) all (S.next+1):=fun d' a1 a2 ⟨m,a3⟩ a4=>by
   refine kbad a1 a2 ?_ fun fates=>?_
   ·rw[a3];simp[lates];omega
   ·rw[a3,a4,hws]
    rcases keeps_put h.good hn hb hfl hnd (fun i hi=>(hlt i hi).1) hff S.d.st (fun i hi=>h.st i hi) fates m (g:=fun i=>scrub crcB (bk (mixes fates 0 (lates ((putWs crcB S.next b fr).take m)) S.d.st) i)) (fun i _=>rfl) with g|g
    ·exact⟨all,blk,Or.inl rfl,g⟩
    ·exact⟨_,_,Or.inr rfl,g⟩
  rw[←hws]
  rcases writes_spec ws S.d h.off (fun w hw=>by
   rw[hws] at hw
   obtain⟨m1,m2⟩:=putWs_mem hw
   exact⟨(hlt _ m1).1,m2⟩) with ⟨w1,w2,w3,w4,w5,w6⟩|⟨w1,w2,⟨m,w3⟩,w5,w6⟩
  ·rw[if_neg (by simp[w1])]
   rw[h.late,List.nil_append] at w3
   rcases sync_spec w2 with ⟨s1,s2,s3,s4,s5,s6⟩|⟨s1,s2,s3,s5,s6⟩
   ·rw[if_neg (by simp[s1])]
    left
    refine⟨_,fun k=>if k=S.next then fr else blk k,rfl,?_,rfl,s6.trans w6⟩
    have hN:((Sto.kept { S with d:=(S.d.writes ws).1.synced } S.next b fr).next1).d.n=S.d.n:=s6.trans w6
    have hnow:((Sto.kept { S with d:=(S.d.writes ws).1.synced } S.next b fr).next1).d.now=ws.foldl (fun m w=>mput m (w.1:Int) w.2) S.d.now:=s4.trans w4
    have hstt:((Sto.kept { S with d:=(S.d.writes ws).1.synced } S.next b fr).next1).d.st=ws.foldl (fun m w=>mput m (w.1:Int) w.2) S.d.now:=s5.trans w4
    refine⟨?_,fun i _=>by rw[hnow,hstt],s3,s2,h.brk,?_,?_,?_⟩
    ·rw[hN,hnow]
     refine keeps_put_ok h.good hn hb hfl hnd (fun i hi=>(hlt i hi).1) hff (fun i _ hi=>?_) (fun j i hji=>?_)
     ·refine bk_puts_out ws _ (fun w hw e=>hi ?_)
      rw[hws] at hw
      rw[←e]
      exact(putWs_mem hw).1
     ·have hw:ws[j]? = some (i,encP crcB ⟨S.next,j,partsN b.length,chunk b j⟩):=by rw[hws];exact putWs_get hji
      exact bk_puts_in ws _ (by rw[hws,putWs_fst];exact hnd) j _ hw
    ·show mput S.recs S.next (b,fr)=_
     have hno:mget S.recs S.next=none:=mget_none_iff2 (fun p hp e=>by
      rw[h.recs] at hp
      obtain⟨q,hq,rfl⟩:=List.mem_map.1 hp
      have:=(h.good.key hq).2
      simp only at e
      omega)
     rw[mget_app_none hno,h.recs,List.map_append]
     congr 1
     ·refine List.map_congr_left fun q hq=>?_
      have:=(h.good.key hq).2
      rw[if_neg (by omega)]
     ·simp
    ·show(setT S.taken fr true).length=_
     rw[setT_len,h.tl,hN]
    ·intro q hq i hi
     show(setT S.taken fr true)[i]? = some true
     rcases List.mem_append.1 hq with hq|hq
     ·have:=(h.good.key hq).2
      rw[if_neg (by omega)] at hi
      exact setT_same _ _ i (h.tak q hq i hi)
     ·obtain rfl:q=(S.next,b):=by simpa using hq
      rw[if_pos rfl] at hi
      exact setT_in _ _ i hi (by rw[h.tl];exact(hlt i hi).1)
   ·right
    rw[if_pos (by rw[s1];decide)]
    obtain⟨d1,d2,d3,d4,d5⟩:=did_recs S (S.d.writes ws).1.synced (S.d.writes ws).1.syncV
    refine⟨_,by rw[s1],?_⟩
    rw[←s1,d4]
    exact hbad _ s2 (s6.trans w6) ⟨ws.length,by rw[s3,w3,List.take_length]⟩ (s5.trans w5)
  ·right
   rw[if_pos (by rw[w1];decide)]
   obtain⟨d1,d2,d3,d4,d5⟩:=did_recs S (S.d.writes ws).1 (S.d.writes ws).2
   refine⟨_,by rw[w1],?_⟩
   rw[←w1,d4]
   exact hbad _ w2 w6 ⟨m,by rw[w3,h.late,List.nil_append]⟩ w5
theorem KInv.key_get {S:Sto} {all:List (Int × List Int)} {blk:Int→List Nat} (h:KInv S all blk) {q:Int × List Int} (hq:q∈all):mget S.recs q.1=some (q.2,blk q.1):=by
 cases e:mget S.recs q.1 with
 | none=>
  exfalso
  refine mget_none_iff.1 e (q.1,(q.2,blk q.1)) ?_ rfl
  rw[h.recs]
  exact List.mem_map.2 ⟨q,hq,rfl⟩
 | some r=>
  have hm:=mget_mem e
  rw[h.recs] at hm
  obtain⟨q',hq',e'⟩:=List.mem_map.1 hm
  injection e' with e1 e2
  have:=h.good.uniq hq' hq e1
  rw[this] at e2
  rw[←e2]
theorem KInv.rem {S:Sto} {all:List (Int × List Int)} {blk:Int→List Nat} (h:KInv S all blk) {q:Int × List Int} (hq:q∈all) :
  (∃S',S.rem q.1=(S',0)∧KInv S' (all.filter fun r=>decide (r.1≠q.1)) blk∧S'.next=S.next∧S'.d.n=S.d.n)∨
  (∃S',S.rem q.1=(S',180)∧KBad S'.d S.d.n (all.filter fun r=>decide (r.1≠q.1)) all S.next):=by
 have hlen:=h.good.bln q hq
 have hpos:=partsN_pos q.2.length
 obtain⟨i0,hi0⟩:∃i,(blk q.1)[0]? = some i:=⟨_,List.getElem?_eq_getElem (by omega)⟩
 have hhd:(blk q.1).headD 0=i0:=by
  cases hb:blk q.1 with
  | nil=>rw[hb] at hi0;simp at hi0
  | cons a t=>rw[hb] at hi0;simpa using hi0
 have hiN:=h.good.blt q hq i0 (List.mem_of_getElem? hi0)
 have hz:padB []=zeroB:=padB_nil
 have hbad:∀d':Dk,d'.off=true→d'.n=S.d.n→d'.late=lates [(i0,zeroB)]→d'.st=S.d.st→KBad d' S.d.n (all.filter fun r=>decide (r.1≠q.1)) all S.next:=fun d' a1 a2 a3 a4=>by
  refine kbad a1 a2 (by rw[a3];simp[lates]) fun fates=>?_
  rw[a3,a4]
  rcases keeps_rem h.good hq hi0 S.d.st (fun i hi=>h.st i hi) fates (g:=fun i=>scrub crcB (bk (mixes fates 0 (lates [(i0,zeroB)]) S.d.st) i)) (fun i _=>rfl) with g|g
  ·exact⟨all,blk,Or.inl rfl,g⟩
  ·exact⟨_,_,Or.inr rfl,g⟩
 unfold Sto.rem
 rw[if_neg (by simp[h.brk]),h.key_get hq]
 simp only
 rw[hhd]
 rcases write_spec h.off hiN (x:=[]) (by simp) with ⟨w1,w2,w3,w4,w5,w6⟩|⟨w1,w2,w3,w5,w6⟩
 ·rw[if_neg (by simp[w1])]
  rw[h.late,List.nil_append,hz] at w3
  rcases sync_spec w2 with ⟨s1,s2,s3,s4,s5,s6⟩|⟨s1,s2,s3,s5,s6⟩
  ·rw[if_neg (by simp[s1])]
   left
   refine⟨_,rfl,?_,rfl,s6.trans w6⟩
   rw[hz] at w4
   refine⟨?_,fun i _=>?_,s3,s2,h.brk,?_,?_,?_⟩
   ·show Good crcB (bk (S.d.written i0 []).synced.now) (S.d.written i0 []).synced.n _ blk S.next
    rw[s6,w6,s4,w4]
    exact h.good.rem hq hi0 (bk_put_same _ _ _) (fun i _ hne=>bk_put_ne _ _ hne)
   ·show bk (S.d.written i0 []).synced.st i=bk (S.d.written i0 []).synced.now i
    rw[s4,s5]
   ·show mdel S.recs q.1=_
    rw[h.recs]
    clear hbad hlen hi0 hhd hiN w1 w2 w3 w4 w5 w6 s1 s2 s3 s4 s5 s6
    unfold mdel
    rw[List.filter_map]
    rfl
   ·show(setT S.taken (blk q.1) false).length=_
    rw[setT_len,h.tl]
    show S.d.n=(S.d.written i0 []).synced.n
    rw[s6,w6]
   ·intro r hr i hi
    show(setT S.taken (blk q.1) false)[i]? = some true
    obtain⟨hr1,hr2⟩:=List.mem_filter.1 hr
    have hne:r.1≠q.1:=by simpa using hr2
    rw[setT_out _ _ i (fun hm=>hne (by rw[h.good.apart hr1 hq hi hm]))]
    exact h.tak r hr1 i hi
  ·right
   rw[if_pos (by rw[s1];decide)]
   obtain⟨d1,d2,d3,d4,d5⟩:=did_recs S (S.d.written i0 []).synced (S.d.written i0 []).syncV
   refine⟨_,by rw[s1],?_⟩
   rw[←s1,d4]
   exact hbad _ s2 (s6.trans w6) (by rw[s3,w3];rfl) (s5.trans w5)
 ·right
  rw[if_pos (by rw[w1];decide)]
  obtain⟨d1,d2,d3,d4,d5⟩:=did_recs S (S.d.written i0 []) (S.d.writeV i0 [])
  refine⟨_,by rw[w1],?_⟩
  rw[←w1,d4]
  exact hbad _ w2 w6 (by rw[w3,h.late,hz];rfl) w5
theorem KInv.failed {S:Sto} {all:List (Int × List Int)} {blk:Int→List Nat} (h:KInv S all blk) (n:Int):KInv { S with d:=S.d.failed n } all blk:=⟨h.good,h.st,h.late,h.off,h.brk,h.recs,h.tl,h.tak⟩
theorem kinv_new (n:Int):KInv (S0 n) [] (fun _=>[]):=⟨good_new _ (fun i _=>rfl),fun i _=>rfl,rfl,rfl,rfl,rfl,List.length_replicate,by simp⟩
open Go.RowKit Go.Sf
structure CallM where
 kind:Int
 B:List Int
 p:Option Addr
 c:Nat
 times:Int
 n:Int
 F:List Int
 fp:Option Addr
 fc:Nat
def callD:CallM:=⟨0,[],none,0,0,0,[],none,0⟩
def callCells (x:CallM):List Value:=[.int .u8 x.kind,.slice x.p x.B.length x.c,.int .u8 x.times,.int .i64 x.n,.slice x.fp x.F.length x.fc]
structure CallOk (W:World) (x:CallM):Prop where
 b:RawRow W (.slice x.p x.B.length x.c) x.B
 bb:BL x.B
 f:RawRow W (.slice x.fp x.F.length x.fc) x.F
 fb:BL x.F
 k:0≤x.kind∧x.kind≤255
 t:0≤x.times∧x.times≤255
 n : -9223372036854775808≤x.n∧x.n≤9223372036854775807
 bl:x.B.length≤9223372036854775807
 fl:x.F.length≤9223372036854775807
def CallRow (w:World) (v:Value) (l:List CallM):Prop:=
 ∃p cap,v = .slice p l.length cap∧l.length≤9223372036854775807∧(∀x∈l,CallOk w x)∧(l = []∨∃b off,p=some ⟨b,off,none⟩∧∀i,i<l.length→∀j u,(callCells (l.getD i callD))[j]? = some u→w.cell? ⟨b,off+i*5+j,none⟩=some u)
def LargeP (w:World) (l:List CallM) (e:Ending) (w':World):Prop:=∃r,e = .returned (.bool r)∧w.grownBy w' none∧(r=false→l.length≤60∧∀x∈l,x.B.length≤6000∧x.F.length≤6000)
set_option maxHeartbeats 4000000 in
set_option maxRecDepth 100000 in
theorem large19_any (v:Value) (l:List CallM) (w:World) (h:CallRow w v l) :
  Calls Tryz.prog 27 #[v] w (LargeP w l):=by
 obtain⟨p,cap,rfl,hlen,hok,hrow⟩:=h
 rcases Nat.lt_or_ge 60 l.length with h60|h60
 ·clear hrow hok
  go_enter Tryz.func27,Tryz.ntmps27
  go_wp2
  go_ret
  exact⟨true,rfl,grown_refl _,by simp⟩
 ·have HK:=Lib.hid hok
  have HR:=Lib.hid hrow
  have HLl:=Lib.hid (show l.length≤60 from h60)
  clear hok hrow
  have hnn:∃m,m=l.length:=⟨_,rfl⟩
  obtain⟨m,hn⟩:=hnn
  have HN:=Lib.hid hn
  rw[←hn] at h60 hlen ⊢
  clear hn
  go_enter Tryz.func27,Tryz.ntmps27
  go_wp2
  go_loopw [3,4] (fun s i wr=>w.grownBy wr none∧∃(j:Nat) (x:Int),j≤m∧i = .int .i64 j∧s = .int .i64 x∧0≤x∧x≤12000∧(∀c∈l.take j,c.B.length≤6000∧c.F.length≤6000)) (fun _ i _=>m-(intOf i).toNat)
  case atStart=>exact⟨grown_refl _,0,0,Nat.zero_le _,rfl,rfl,by omega,by omega,by simp⟩
  case round=>
   obtain⟨hg,j,x,hj,rfl,rfl,hx0,hx1,hall⟩:=hrel
   have HA:=Lib.hid hall
   clear hall
   rcases Nat.lt_or_ge j m with hlt|hge
   ·rcases HR.out with h0|⟨b,off,rfl,hc⟩
    ·exfalso;have:=HN.out;rw[h0] at this;simp at this;omega
    ·have hjl:j<l.length:=by rw[←HN.out];exact hlt
     have cB:=hg.cell (hc j hjl 1 _ rfl) (by simp)
     have cF:=hg.cell (hc j hjl 4 _ rfl) (by simp)
     have hbw:b<wr.heap.size:=cell_lt cB
     have hget:l.getD j callD=l[j]:=by simp[List.getD_eq_getElem?_getD,List.getElem?_eq_getElem hjl]
     have hkk:=HK.out l[j] (List.getElem_mem _)
     have htk:l.take (j+1)=l.take j ++ [l[j]]:=List.take_succ_eq_append_getElem hjl
     have HT:=Lib.hid htk
     rw[hget] at cB cF
     have hb:=hkk.bl
     have hf:=hkk.fl
     clear hc htk hkk hget
     have HG:=Lib.hid hg
     clear hg
     have HC:Hid (∀y∈l.take (j+1),y∈l.take j∨y=l[j]):=(fun y hy=>by
      rw[HT.out] at hy
      rcases List.mem_append.1 hy with h|h
      ·exact Or.inl h
      ·exact Or.inr (by simpa using h))
     generalize l[j]=c at *
     obtain⟨kind,B,bp,bc,times,n,F,fp,fc⟩:=c
     simp only at cB cF hb hf
     have HBl:=Lib.hid (show B.length=B.length from rfl)
     generalize hbn:B.length=bn at *
     generalize hfn:F.length=fn at *
     have HBN:=Lib.hid hbn
     have HFN:=Lib.hid hfn
     clear hbn hfn HBl
     by_cases hgt:6000-x<(bn:Int)
     ·go_wp2
      go_ret
      exact⟨true,rfl,HG.out,by simp⟩
     ·by_cases hgt2:6000-x<(fn:Int)
      ·go_wp2
       go_ret
       exact⟨true,rfl,HG.out,by simp⟩
      ·go_upto_region 9 with fail
       refine wp_region_quiet_ext (by kernel_rfl) (by kernel_rfl) ?_
       repeat (any_goals (first|go_big_quiet_step (fail)|quiet_step (fail)))
       refine wpQuiet_nil ?_
       intro _ hw'
       obtain⟨xx,hw''⟩:=hw'
       subst hw''
       have HG2:=Lib.hid (grown_ext' HG.out xx)
       generalize ext wr xx=w9 at *
       go_wp2
       refine⟨⟨HG2.out,j+1,x+bn+fn,by omega,by simp,by simp,by omega,by omega,fun y hy=>?_⟩,by simp[intOf];omega⟩
       rcases HC.out y hy with h|rfl
       ·exact HA.out y h
       ·exact⟨by show B.length≤6000;rw[HBN.out];omega,by show F.length≤6000;rw[HFN.out];omega⟩
   ·go_wp2
    go_ret
    refine⟨false,rfl,hg,fun _=>⟨HLl.out,?_⟩⟩
    have:=HA.out
    rw[List.take_of_length_le (by rw[←HN.out];omega)] at this
    exact this
def timesN (n T:Nat):Nat:=min (T+1) (if n=0 then T+1 else 700 / n)
theorem timesN_iff (n T k:Nat):k<timesN n T↔k≤T∧k*n+n≤700:=by
 unfold timesN
 rcases Nat.eq_zero_or_pos n with rfl|h
 ·simp;omega
 ·rw[if_neg (by omega)]
  have:k<700 / n↔k*n+n≤700:=by
   rw[Nat.lt_iff_add_one_le,Nat.le_div_iff_mul_le h,Nat.add_mul,Nat.one_mul]
  omega
def repB (B:List Int):Nat→List Int
 | 0=>[]
 | k+1=>repB B k++B
theorem repB_len (B:List Int):∀k,(repB B k).length=k*B.length
 | 0=>by simp[repB]
 | k+1=>by rw[repB,List.length_append,repB_len B k,Nat.add_mul,Nat.one_mul]
theorem repB_BL {B:List Int} (h:BL B):∀k,BL (repB B k)
 | 0=>fun b hb=>by simp[repB] at hb
 | k+1=>fun b hb=>by
  rcases List.mem_append.1 hb with h1|h1
  ·exact repB_BL h k b h1
  ·exact h b h1
def bytesC (x:CallM):List Int:=repB x.B (timesN x.B.length x.times.toNat)
theorem bytesC_BL {W:World} {x:CallM} (h:CallOk W x):BL (bytesC x):=repB_BL h.bb _
theorem bytesC_len (x:CallM):(bytesC x).length≤700:=by
 unfold bytesC
 rw[repB_len]
 cases e:timesN x.B.length x.times.toNat with
 | zero=>omega
 | succ k=>
  have:=(timesN_iff x.B.length x.times.toNat k).1 (by omega)
  rw[Nat.add_mul,Nat.one_mul]
  exact this.2
set_option maxHeartbeats 4000000 in
set_option maxRecDepth 100000 in
theorem bytes19_any {W:World} {x:CallM} (h:CallOk W x) :
  Calls Tryz.prog 32 #[.agg (callCells x).toArray] W fun e w'=>e = .returned (.string (ofB (bytesC x)))∧W.grownBy w' none:=by
 have HB:=Lib.hid h.b
 have hk:=h.k
 have ht:=h.t
 have hl:=h.bl
 have HE:Hid (bytesC x=repB x.B (timesN x.B.length x.times.toNat)):=(show _=_ from rfl)
 rw[HE.out]
 clear HE h
 obtain⟨kind,B,bp,bc,times,n,F,fp,fc⟩:=x
 obtain⟨T,rfl⟩:=Int.eq_ofNat_of_zero_le ht.1
 simp only[callCells] at *
 have hi:=timesN_iff B.length T
 have HI:=Lib.hid hi
 have HL:Hid (∀k,(ofB (repB B k)).size=k*B.length):=(fun k=>by rw[ofB_size,repB_len])
 simp only[Int.toNat_natCast]
 clear hi
 generalize timesN B.length T=M at *
 have hw1:=World.grownBy_alloc W (.cells #[.int .u8 kind,.slice bp B.length bc,.int .u8 (T:Int),.int .i64 n,.slice fp F.length fc] 49) none
 have hh1:=heap_alloc_new W (.cells #[.int .u8 kind,.slice bp B.length bc,.int .u8 (T:Int),.int .i64 n,.slice fp F.length fc] 49)
 have hcv:=conv_raw (HB.out.grown hw1 (by simp))
 have HW1:=Lib.hid hw1
 obtain⟨W1,hW1⟩:∃x,x=W.alloc (.cells #[.int .u8 kind,.slice bp B.length bc,.int .u8 (T:Int),.int .i64 n,.slice fp F.length fc] 49):=⟨_,rfl⟩
 have HHW:=Lib.hid hW1
 rw[←hW1] at hh1 hcv HW1
 clear hW1
 have d1:W1.cell? ⟨W.heap.size,1,none⟩=some (.slice bp B.length bc):=(cell_block hh1 1).trans rfl
 have d2:W1.cell? ⟨W.heap.size,2,none⟩=some (.int .u8 (T:Int)):=(cell_block hh1 2).trans rfl
 have HZ:Hid (∀k,ofB (repB B k)++ofB B=ofB (repB B (k+1))):=(fun k=>ofB_app _ _)
 have hz0:ofB (repB B 0)=⟨#[]⟩:=rfl
 have hbsz:(ofB B).size=B.length:=ofB_size B
 have HZ0:=Lib.hid hz0
 generalize hbs:ofB B=bs at *
 clear hw1 hh1 hbs hz0 hk
 have hR:∃R:Nat→ByteArray,∀k,R k=ofB (repB B k):=⟨_,fun _=>rfl⟩
 obtain⟨R,hR⟩:=hR
 rw[←hR M]
 have HR2:Hid (R 0=⟨#[]⟩∧(∀k,(R k).size=k*B.length)∧∀k,R k++bs=R (k+1)):=(show _∧_ from ⟨by rw[hR];exact HZ0.out,fun k=>by rw[hR];exact HL.out k,fun k=>by rw[hR,hR];exact HZ.out k⟩)
 clear HL HZ HZ0 hR
 have HBB:=HB.out.ex
 generalize hbn:B.length=bn at *
 clear HB HBB hbn
 go_enter Tryz.func32,Tryz.ntmps32
 go_wp2
 rw[←HHW.out]
 clear HHW
 go_loopw [3,4] (fun s i wr=>W1=wr∧∃k:Nat,k≤M∧s = .string (R k)∧i = .int .i64 k) (fun _ i _=>M-(intOf i).toNat)
 case atStart=>exact⟨rfl,0,by omega,by rw[HR2.out.1],rfl⟩
 case round=>
  obtain⟨rfl,k,hkM,rfl,rfl⟩:=hrel
  have hsz:=HR2.out.2.1 k
  have HAP:=Lib.hid (HR2.out.2.2 k)
  have hkn:k*bn≤700:=by
   cases k with
   | zero=>omega
   | succ j=>
    have:=((HI.out j).1 (by omega)).2
    rw[Nat.add_mul,Nat.one_mul]
    exact this
  have hkb:k*bn+bn≤9223372036854775807:=by
   cases k with
   | zero=>omega
   | succ j=>
    have h1:=((HI.out j).1 (by omega)).2
    have h2:bn≤700:=by omega
    omega
  have hik:=HI.out k
  generalize k*bn=m at *
  obtain⟨z,hz⟩:∃z,z=R k:=⟨_,rfl⟩
  rw[←hz] at hsz HAP ⊢
  have HZK:=Lib.hid hz
  clear hz
  by_cases hkM2:k<M
  ·obtain⟨a1,a2⟩:=hik.1 hkM2
   clear hik
   go_wp2
   rw[HAP.out]
   refine⟨⟨trivial,k+1,by omega,rfl,by simp⟩,by simp[intOf];omega⟩
  ·obtain rfl:k=M:=by omega
   by_cases hT:k≤T
   ·have h700:700<m+bn:=by
     rcases Nat.lt_or_ge 700 (m+bn) with h|h
     ·exact h
     ·exact absurd (hik.2 ⟨hT,h⟩) (by omega)
    clear hik
    go_wp2
    go_ret
    rw[←HZK.out]
    exact⟨rfl,HW1.out⟩
   ·clear hik
    go_wp2
    go_ret
    rw[←HZK.out]
    exact⟨rfl,HW1.out⟩
open Go.RowKit Go.Sf Go.Shelf
def hasE (q:Int × List Int):List Value:=[.int .i64 q.1,.string (ofB q.2)]
theorem hasE_len (q:Int × List Int):(hasE q).length=2:=rfl
theorem hasE_one (q:Int × List Int):∀u∈hasE q,u.oneCell'=true:=fun u hu=>by
 simp only[hasE,List.mem_cons,List.not_mem_nil,or_false] at hu
 rcases hu with rfl|rfl <;> rfl
def HRow (w:World) (v:Value) (l:List (Int × List Int)):Prop:=SRow w 54 2 hasE v l
theorem hinfo:∃(i:TypeInfo) (z:Value) (by_:Nat),Tryz.prog.info? 54=some i∧i.zero=some z∧i.size=2∧i.bytes=by_∧z.cells.size=2∧by_≤1000:=by
 have h:((Tryz.prog.info? 54).bind fun i=>i.zero.map fun z=>(i.size,decide (i.bytes≤1000),z.cells.size))=some (2,true,2):=by kernel_rfl
 cases hi:Tryz.prog.info? 54 with
 | none=>rw[hi] at h;cases h
 | some i=>
  rw[hi] at h
  cases hz:i.zero with
  | none=>simp[hz] at h
  | some z=>
   simp[hz] at h
   exact⟨i,z,_,rfl,hz,h.1,rfl,h.2.2,h.2.1⟩
theorem HRow.y {w:World} {v:Value} {l:List (Int × List Int)} (h:HRow w v l):YRow w hasE v l:=by
 have h0:w.ownsRow 0 54 2 v l.length (l.flatMap hasE):=h
 rcases h0.2 with ⟨rfl,hn⟩|⟨g,c,cur,rfl,_⟩
 ·exact⟨none,0,by rw[hn],Or.inl (List.eq_nil_of_length_eq_zero hn)⟩
 ·refine⟨_,_,rfl,Or.inr ⟨_,rfl,fun j u hu=>?_⟩⟩
  exact h0.cells (g:=g) rfl j u hu
theorem hrow_nil (w:World):HRow w (.slice none 0 0) []:=⟨rfl,Or.inl ⟨rfl,rfl⟩⟩
theorem YRow.part {w:World} {p:Option Addr} {n cap:Nat} {l:List (Int × List Int)} (h:YRow w hasE (.slice p n cap) l) (lo:Nat) (hlo:lo≤l.length) {q:Option Addr} {c k:Nat} (hk:k=l.length-lo) (hq:k≠0→q=p.map fun a=>a.add (lo*2)):YRow w hasE (.slice q k c) (l.drop lo):=by
 obtain⟨p',cap',e,hc⟩:=h
 injection e with e1 e2 e3
 subst e1 e2 e3
 refine⟨q,c,by rw[List.length_drop,hk],?_⟩
 rcases Nat.eq_zero_or_pos k with h0|h0
 ·left;exact List.drop_of_length_le (by omega)
 ·right
  rw[hq (by omega)]
  rcases hc with h1|⟨a,rfl,h1⟩
  ·rw[h1] at hk;simp at hk;omega
  ·refine⟨_,rfl,fun j u hu=>?_⟩
   rw[Addr.add_add]
   refine h1 _ _ ?_
   have e2:l.flatMap hasE=(l.take lo).flatMap hasE++(l.drop lo).flatMap hasE:=by rw[←List.flatMap_append,List.take_append_drop]
   rw[e2,List.getElem?_append_right (by rw[flat_size hasE 2 hasE_len,List.length_take];omega),flat_size hasE 2 hasE_len,List.length_take]
   rw[←hu]
   congr 1
   omega
theorem YRow.take {w:World} {p:Option Addr} {n cap:Nat} {l:List (Int × List Int)} (h:YRow w hasE (.slice p n cap) l) (k:Nat) (hk:k≤l.length) {q:Option Addr} {c:Nat} (hq:k≠0→q=p):YRow w hasE (.slice q k c) (l.take k):=by
 obtain⟨p',cap',e,hc⟩:=h
 injection e with e1 e2 e3
 subst e1 e2 e3
 refine⟨q,c,by rw[List.length_take];congr 1;omega,?_⟩
 rcases Nat.eq_zero_or_pos k with h0|h0
 ·left;rw[h0];rfl
 ·right
  rw[hq (by omega)]
  rcases hc with h1|⟨a,rfl,h1⟩
  ·rw[h1] at hk;simp at hk;omega
  ·refine⟨_,rfl,fun j u hu=>h1 _ _ ?_⟩
   have e2:l.flatMap hasE=(l.take k).flatMap hasE++(l.drop k).flatMap hasE:=by rw[←List.flatMap_append,List.take_append_drop]
   rw[e2,List.getElem?_append_left (List.getElem?_eq_some_iff.1 hu).1]
   exact hu
set_option maxHeartbeats 4000000 in
set_option maxRecDepth 100000 in
theorem without_any {W:World} {v:Value} {l:List (Int × List Int)} (h:HRow W v l) (k:Nat) (hk:k<l.length) (hl:l.length≤1000000) :
  Calls Tryz.prog 31 #[v,.int .i64 (k:Int)] W fun e w'=>∃v',e = .returned v'∧HRow w' v' (l.take k++l.drop (k+1))∧W.grownBy w' none∧∀g,v'.ownBlock=some g→W.heap.size≤g:=by
 obtain⟨i0,z0,by0,hi,hz,hs,hb,hzs,hb2⟩:=hinfo
 have HY:=Lib.hid h.y
 have HH:=Lib.hid h
 obtain⟨p,cap,e0,hcm,hlc⟩:=SRow.form h
 obtain⟨g,cap',rfl,-,-⟩:∃g cap,v = .slice (some ⟨g,0,none⟩) l.length cap∧True∧True:=(by
  rcases SRow.at hasE_len h with h0|⟨g,c,e,_⟩
  ·rw[h0] at hk;simp at hk
  ·exact⟨g,c,e,trivial,trivial⟩)
 obtain⟨rfl,rfl⟩:p=some ⟨g,0,none⟩∧cap=cap':=(by injection e0 with e1 _ e2;exact⟨e1.symm,e2.symm⟩)
 clear e0
 have HL:=Lib.hid hl
 obtain⟨n,hn⟩:∃n,n=l.length:=⟨_,rfl⟩
 have HN:=Lib.hid hn
 rw[←hn] at hk hl hlc ⊢
 clear h hn
 have H0:=Lib.hid (hrow_nil W)
 go_enter Tryz.func31,Tryz.ntmps31
 go_upto_region 3 with (at_builtin;refine wpList_sapp (E:=54) (sz:=2) (enc:=hasE) (v:=.slice none 0 0) (l:=[]) (m:=l.take k) _ rfl _ _ 46 rfl hasE_len hasE_one i0 z0 by0 Tryz.underlying46 hi hz hs hb hzs (by decide) hb2 rfl H0.out rfl (YRow.take HY.out k (by rw[←HN.out];omega) (fun _=>rfl)) (by have:=HL.out;simp;omega) k (by rw[List.length_take,←HN.out];simp;omega) ?_;intro p1 c1 w1 hap;have HAP:=Lib.hid hap;clear hap)
 have hg1:W.grownBy w1 none:=HAP.out.2.1
 have HY1:=Lib.hid (HRow.y (SRow.grown HH.out hg1 (by simp)))
 have HG1:=Lib.hid hg1
 have hr1:=HAP.out.1
 rw[List.nil_append] at hr1
 have HR1:=Lib.hid hr1
 have HO1:Hid (∀b,(Value.slice p1 k c1).ownBlock=some b→W.heap.size≤b):=(fun b hb=>by
  rcases HAP.out.2.2 with e|e
  ·rw[e] at hb;simp[Value.ownBlock] at hb
  ·rw[e] at hb;injection hb with hb;omega)
 have HKL:Hid ((l.take k).length=k):=(show _=_ from by rw[List.length_take,←HN.out];omega)
 clear hg1 HAP hr1 H0 HH HY
 go_wp2_with (at_builtin;refine wpList_sapp (E:=54) (sz:=2) (enc:=hasE) (v:=.slice p1 k c1) (l:=l.take k) (m:=l.drop (k+1)) _ rfl _ _ 46 rfl hasE_len hasE_one i0 z0 by0 Tryz.underlying46 hi hz hs hb hzs (by decide) hb2 rfl HR1.out rfl (YRow.part HY1.out (k+1) (by rw[←HN.out];omega) (by rw[←HN.out]) (fun hne=>by first|(have hcc:¬cap=k+1:=(by omega);simp[Addr.add,hcc])|(simp[Addr.add];omega))) (by have:=HL.out;simp;omega) (k+(n-(k+1))) (by rw[HKL.out,List.length_drop,←HN.out]) ?_;intro p2 c2 w2 hap;have HAP:=Lib.hid hap;clear hap)
 all_goals go_ret
 all_goals (refine⟨_,rfl,HAP.out.1,grown_ownH HG1.out HAP.out.2.1 HO1.out,fun b hb=>?_⟩)
 all_goals (rcases HAP.out.2.2 with e|e)
 all_goals first
  | exact HO1.out b (by rw[←e];exact hb)
  | (have hb2:some w1.heap.size=some b:=e.symm.trans hb;injection hb2 with hb2;have:=HG1.out.size;omega)
structure KR (W:World) (own:Nat→Prop) (st db:Nat) (S:Sto) (w:World):Prop where
 rep:SRep own w st db S
 old:∀k,k<W.heap.size→own k
 gr:W.grownBy w none
section
variable {W w w' : World} {own : Nat → Prop} {st db : Nat} {S : Sto}
theorem KR.grown (h:KR W own st db S w) (hg:w.grownBy w' none):KR W own st db S w':=⟨h.rep.kept hg,h.old,grown_trans h.gr hg⟩
theorem KR.more (h:KR W own st db S w) (hg:w.grownBy w' none):KR W (fun k=>own k∨(w.heap.size≤k∧k<w'.heap.size)) st db S w':=by
 obtain⟨mb,tb,rv,rb,hs⟩:=h.rep
 exact⟨⟨mb,tb,rv,rb,hs.owns hg (fun k hk=>hk.imp id fun e=>e.1) (fun k hk=>by
  rcases hk with e|e
  ·exact Nat.lt_of_lt_of_le (hs.own_lt e) hg.size
  ·exact e.2)⟩,fun k hk=>Or.inl (h.old k hk),grown_trans h.gr hg⟩
theorem KR.put (h:KR W own st db S w) {v:Value} {b:List Int} (hv:RowP own w v (bytesV b)) (hb:BL b) (hl:b.length≤100000000) (hf:S.d.late.length+600<1000000) :
  Calls Tryz.prog 20 #[.pointer (some ⟨st,0,none⟩),v] w fun e w'=>e = .returned (.tuple #[.int .i64 (S.put b).2.1,.int .i64 (S.put b).2.2])∧KR W own st db (S.put b).1 w'∧Turn (fun k=>¬own k) w w':=by
 obtain⟨mb,tb,rv,rb,hs⟩:=h.rep
 refine(sput hs hv hb hl hf).mono ?_
 rintro e w' ⟨rfl,hr,ht⟩
 exact⟨rfl,⟨hr,h.old,turn_grown2 h.gr h.old ht⟩,ht⟩
theorem KR.rem (h:KR W own st db S w) (k:Int) (hf:S.d.late.length<1000000) :
  Calls Tryz.prog 30 #[.pointer (some ⟨st,0,none⟩),.int .i64 k] w fun e w'=>e = .returned (.int .i64 (S.rem k).2)∧KR W own st db (S.rem k).1 w'∧Turn (fun k=>¬own k) w w':=by
 obtain⟨mb,tb,rv,rb,hs⟩:=h.rep
 refine(sremove hs k hf).mono ?_
 rintro e w' ⟨rfl,hr,ht⟩
 exact⟨rfl,⟨⟨_,_,_,_,hr⟩,h.old,turn_grown2 h.gr h.old ht⟩,ht⟩
theorem KR.get (h:KR W own st db S w) (k:Int):Calls Tryz.prog 21 #[.pointer (some ⟨st,0,none⟩),.int .i64 k] w fun e w'=>w.grownBy w' none∧∃v,e = .returned (.tuple #[v,.bool (mget S.recs k).isSome])∧((mget S.recs k=none∧v = .slice none 0 0)∨∃r,mget S.recs k=some r∧NewRow w w' v r.1):=by
 obtain⟨mb,tb,rv,rb,hs⟩:=h.rep
 exact sget hs k
theorem KR.numbers (h:KR W own st db S w) (hk:∀r∈S.recs,1≤r.1∧r.1≤4611686018427387904) (hl:S.recs.length≤1000000):Calls Tryz.prog 26 #[.pointer (some ⟨st,0,none⟩)] w fun e w'=>w.grownBy w' none∧∃v,e = .returned v∧w'.ownsRow w.heap.size 2 1 v S.recs.length (((S.recs.map (·.1)).mergeSort fun x y=>decide (x≤y)).map (Value.int .i64)):=by
 obtain⟨mb,tb,rv,rb,hs⟩:=h.rep
 exact snumbers hs hk hl
theorem KR.next (h:KR W own st db S w):Calls Tryz.prog 29 #[.pointer (some ⟨st,0,none⟩)] w fun e w'=>e = .returned (.int .i64 S.next)∧w'=w:=by
 obtain⟨mb,tb,rv,rb,hs⟩:=h.rep
 exact snext hs
theorem KR.fail (h:KR W own st db S w) (n:Int) (hn:n<9223372036854775808):Calls Tryz.prog 28 #[.pointer (some ⟨db,0,none⟩),.int .i64 n] w fun e w'=>e = .returned (.tuple #[])∧KR W own st db { S with d:=S.d.failed n } w'∧Turn (fun k=>¬own k) w w':=by
 obtain⟨mb,tb,rv,rb,hs⟩:=h.rep
 refine(dfail hs.disk n hn).mono ?_
 rintro e w' ⟨rfl,hd,ht⟩
 exact⟨rfl,⟨⟨_,_,_,_,hs.turned hd ht rfl⟩,h.old,turn_grown2 h.gr h.old (turn_less ht)⟩,turn_less ht⟩
theorem KR.off (h:KR W own st db S w):Calls Tryz.prog 33 #[.pointer (some ⟨db,0,none⟩)] w fun e w'=>e = .returned (.bool S.d.off)∧w'=w:=by
 obtain⟨mb,tb,rv,rb,hs⟩:=h.rep
 exact doff hs.disk
theorem KR.on (h:KR W own st db S w) {fv:Value} {fates:List Int} (hf:RawRow W fv fates) (hb:BL fates) (hl:fates.length≤1000000):Calls Tryz.prog 34 #[.pointer (some ⟨db,0,none⟩),fv] w fun e w'=>e = .returned (.tuple #[])∧DRep own w' db (S.d.on fates)∧W.grownBy w' none∧Turn (fun k=>¬own k) w w':=by
 obtain⟨mb,tb,rv,rb,hs⟩:=h.rep
 refine(don (hs.disk.less fun k hk=>Or.inl hk) (fun w1 ht=>hf.grown (turn_grown2 h.gr h.old ht) (by simp)) hb hl).mono ?_
 rintro e w' ⟨rfl,hd,ht⟩
 exact⟨rfl,hd,turn_grown2 h.gr h.old ht,ht⟩
end
theorem kopen_any {W w:World} {own:Nat→Prop} {db:Nat} {d:Dk} (hg:W.grownBy w none) (ho:∀k,k<W.heap.size→own k) (hd:DRep own w db d) (hs:Steady d) (hl:d.late.length+d.n<1000000) :
  Calls Tryz.prog 18 #[.pointer (some ⟨db,0,none⟩)] w fun e w'=>∃st ks,e = .returned (.tuple #[.pointer (some ⟨st,0,none⟩),.int .i64 0])∧KeysOf d ks∧KR W own st db (openS d ks) w'∧Turn (fun k=>¬own k) w w':=by
 refine(sopen hd hs.1 hl).mono ?_
 rintro e w' ⟨ht,hp⟩
 rcases hp with ⟨h1,_⟩|⟨_,st,ks,rfl,hk,hss⟩
 ·exact absurd hs.opened h1
 ·exact⟨st,ks,rfl,hk,⟨hss,ho,turn_grown2 hg ho ht⟩,ht⟩
theorem HRow.turn {own:Nat→Prop} {w w':World} {v:Value} {l:List (Int × List Int)} (h:HRow w v l) (ho:∀g,v.ownBlock=some g→own g) (ht:Turn (fun k=>¬own k) w w'):HRow w' v l:=
 SRow.same h fun g hg=>ht.block g (SRow.lt h hg) (fun e=>e (ho g hg))
theorem HRow.kept {w w':World} {v:Value} {l:List (Int × List Int)} (h:HRow w v l) (hg:w.grownBy w' none):HRow w' v l:=SRow.grown h hg (by simp)
theorem conv_strP (W:World) (s:ByteArray) (hs:s.size≤1000000):∃y W2,(convert 9 32 (.string s)).run Tryz.prog W = .ok y W2∧W.grownBy W2 none∧RowP (fun k=>W.heap.size≤k∧k<W2.heap.size) W2 y (bytesV (strB s)):=by
 refine⟨_,_,Lib.run_convert_string_bytes (P:=Tryz.prog) W 9 32 5 s (u:=.string) Tryz.underlying9 Tryz.underlying32 Tryz.underlying5,grown_bytes _ _ _,?_⟩
 obtain⟨p,cap,e,hc⟩:=(rawRow_conv W s).ex
 injection e with e1 e2 e3
 have hge:=grownCap_ge W s.size 0 5
 have hle:=grownCap_le_maxLen W s.size 0 5 (by unfold maxLen;omega)
 unfold maxLen at hle
 have hsz:W.heap.size<(Lib.bytesWorld W 5 s).heap.size:=by
  unfold Lib.bytesWorld World.freeze
  split <;> simp
 refine⟨some ⟨W.heap.size,0,none⟩,grownCap W s.size 0 5,by rw[bytesV_len,strB_len],by rw[bytesV_len,strB_len];exact hge,by omega,?_⟩
 rcases hc with h0|⟨a,h1,h2⟩
 ·left;rw[h0];rfl
 ·right
  rw[←e1] at h1
  injection h1 with h1
  subst h1
  exact⟨_,rfl,⟨Nat.le_refl _,hsz⟩,h2⟩
end Go.Proofs.YtbcbhlfjgobejaaGreat
