/- TableBytes, plain: From's parser gives back a table's sorted rows. Conditions: a table in its ranges. TableBytes, plain: what From gives of a table's bytes has the same lookups. Conditions: a table in its ranges. TableBytes, plain: what the parser gives is fit for Bytes, and no longer than what was read. Conditions: bytes. TableBytes, plain: what the parser gives is fit for Bytes. Conditions: at most 60000 bytes. -/
import Derived.Test.YtjfelfjobeeenaaGreatP39
namespace Go.Proofs.YtjfelfjobeeenaaGreat
set_option linter.unusedVariables false
set_option linter.unusedSimpArgs false
open Go.RowKit Go.Sf Go.Shelf
theorem rd_e2 {x:Int} (h0:0≤x) (h1:x≤65535) (t:List Int):rd 2 (e2 x++t)=some (x.toNat,t):=by
 unfold e2
 rw[rd_be 2 _ _ (by omega),show(x%65536).toNat=x.toNat by omega]
theorem rd_e4 {n:Nat} (h1:n≤1000000) (t:List Int):rd 4 (e4 n++t)=some (n,t):=by
 unfold e4
 rw[rd_be 4 _ _ (by omega),show((n:Int)%4294967296).toNat=n by omega]
theorem rd_e8 (x:Int) (t:List Int):rd 8 (e8 x++t)=some ((x%18446744073709551616).toNat,t):=by
 unfold e8
 rw[rd_be 8 _ _ (by omega)]
theorem s64_e8 {x:Int} (h:I64 x):s64 (x%18446744073709551616).toNat=x:=by
 have h0:=h.1
 have h1:=h.2
 unfold s64
 split <;> omega
theorem rdBit_e (b:Bool) (t:List Int):rdBit (eBit b++t)=some (b,t):=by
 unfold rdBit eBit
 rw[rd_be 1 _ _ (by cases b <;> decide)]
 cases b <;> rfl
theorem rdT_e {s:ByteArray} (h:s.size≤255) (t:List Int):rdT (eTxt s++t)=some (s,t):=by
 unfold eTxt
 rw[List.append_assoc,rdT_be s t (by omega)]
theorem rdID_e {i:ID} (h:i.key.size≤255) (hv:I64 i.ver) (t:List Int):rdID (eID i++t)=some (i,t):=by
 unfold rdID eID
 rw[List.append_assoc,rdT_e h]
 simp only[Option.bind_some]
 rw[rd_e8]
 simp only[Option.bind_some]
 rw[s64_e8 hv]
theorem rep_rows {K V:Type} (f:List (K × V)→List Int→Option (List (K × V) × List Int)) (enc:K→List Int) (val:K→V):∀(ks:List K) (m:List (K × V)) (t:List Int),ks.Nodup→(∀k∈ks,k ∉ m.map (·.1))→
  (∀k∈ks,∀m t,k ∉ m.map (·.1)→f m (enc k++t)=some (m ++ [(k,val k)],t))→rep f ks.length m (ks.flatMap enc++t)=some (m++ks.map (fun k=>(k,val k)),t)
 | [],m,t,_,_,_=>by simp[rep]
 | k :: r,m,t,hn,hd,hf=>by
  obtain⟨h1,h2⟩:=List.nodup_cons.1 hn
  rw[List.length_cons,rep,List.flatMap_cons,List.append_assoc,hf k (by simp) m _ (hd k (by simp))]
  simp only[Option.bind_some]
  rw[rep_rows f enc val r _ t h2 (fun x hx=>?_) (fun x hx=>hf x (List.mem_cons_of_mem _ hx))]
  ·simp
  ·rw[List.map_append,List.mem_append]
   rintro(h|h)
   ·exact hd x (List.mem_cons_of_mem _ hx) h
   ·simp at h
    subst h
    exact h1 hx
theorem mput_app {K V:Type} [DecidableEq K] {m:List (K × V)} {k:K} (h:k ∉ m.map (·.1)) (v:V):mput m k v=m ++ [(k,v)]:=
 mput_new (fun p hp e=>h (List.mem_map.2 ⟨p,hp,e⟩)) v
theorem rdCall_e {m:List (Int × CallT)} {k:Int} {x:CallT} (h:CallOk (k,x)) (hk:k ∉ m.map (·.1)) (t:List Int):rdCall m (callB (k,x)++t)=some (m ++ [(k,x)],t):=by
 have hc0:0≤k:=h.c0
 have hc1:k≤65535:=h.c1
 have he0:0≤x.code:=h.e0
 have he1:x.code≤65535:=h.e1
 unfold rdCall callB
 simp only[List.append_assoc]
 rw[rd_e2 hc0 hc1]
 simp only[Option.bind_some]
 rw[rd_e8]
 simp only[Option.bind_some]
 rw[rd_e8]
 simp only[Option.bind_some]
 rw[rdBit_e]
 simp only[Option.bind_some]
 rw[rd_e2 he0 he1]
 simp only[Option.bind_some]
 rw[s64_e8 h.r,s64_e8 h.v,show((k.toNat:Nat):Int)=k by omega,show((x.code.toNat:Nat):Int)=x.code by omega,mput_app hk]
theorem rdVal_e {m:List (ByteArray × Val)} {nx:Int} {s:ByteArray} {x:Val} (h1:1≤x.ver) (h2:x.ver<nx) (h3:nx≤1000000) (hs:s.size≤255) (hk:s ∉ m.map (·.1)) (t:List Int):rdVal nx m (valB (s,x)++t)=some (m ++ [(s,x)],t):=by
 unfold rdVal valB
 simp only[List.append_assoc]
 rw[rdID_e (i:=⟨s,x.ver⟩) hs ⟨by simp only;omega,by simp only;omega⟩]
 simp only[Option.bind_some]
 rw[if_pos ⟨h1,h2⟩,rdBit_e]
 simp only[Option.bind_some]
 rw[mput_app hk]
theorem rdPend_e {m:List (ID × Pend)} {nx:Int} {i:ID} {x:Pend} (h1:1≤i.ver) (h2:i.ver<nx) (h3:nx≤1000000) (h:PendOk (i,x)) (hk:i ∉ m.map (·.1)) (t:List Int):rdPend nx m (pendB (i,x)++t)=some (m ++ [(i,x)],t):=by
 have hs:i.key.size≤64:=h.k
 have hc0:0≤x.client:=h.c0
 have hc1:x.client≤65535:=h.c1
 unfold rdPend pendB
 simp only[List.append_assoc]
 rw[rdID_e (by omega) ⟨by omega,by omega⟩]
 simp only[Option.bind_some]
 rw[if_pos ⟨h1,h2⟩,rd_e2 hc0 hc1]
 simp only[Option.bind_some]
 rw[rd_e8]
 simp only[Option.bind_some]
 rw[s64_e8 h.r,show((x.client.toNat:Nat):Int)=x.client by omega,mput_app hk]
theorem smod_app {m:List (ID × NSet)} {i:ID} (hk:i ∉ m.map (·.1)) (l:List Int) (f:List Int→List Int):smod (m ++ [(i,⟨0,l⟩)]) i f=m ++ [(i,⟨0,f l⟩)]:=by
 unfold smod
 rw[List.map_append]
 congr 1
 ·conv=>rhs;rw[←List.map_id m]
  apply List.map_congr_left
  intro p hp
  rw[if_neg (fun e=>hk (List.mem_map.2 ⟨p,hp,e⟩))]
  rfl
 ·simp
theorem rdMems_e {n:Nat} {m:List (ID × NSet)} {i:ID} (hk:i ∉ m.map (·.1)) (hn:n≤65535):∀(ns l:List Int) (t:List Int),(l++ns).Nodup→(∀x∈ns,0≤x∧x<n)→rdMems n i ns.length (m ++ [(i,⟨0,l⟩)]) (ns.flatMap e2++t)=some (m ++ [(i,⟨0,l++ns⟩)],t)
 | [],l,t,_,_=>by simp[rdMems]
 | x :: r,l,t,hnd,hr=>by
  have hx:=hr x (by simp)
  have hxl:x ∉ l:=fun h=>(List.nodup_append.1 hnd).2.2 x h x (by simp) rfl
  rw[List.length_cons,rdMems,List.flatMap_cons,List.append_assoc,rdMem,rd_e2 hx.1 (by omega)]
  simp only[Option.bind_some]
  rw[if_pos (by omega),show((x.toNat:Nat):Int)=x by omega,smod_app hk]
  simp only[Option.bind_some]
  rw[show sput l x=l ++ [x] from if_neg hxl,rdMems_e hk hn r (l ++ [x]) t (by simpa using hnd) (fun y hy=>hr y (List.mem_cons_of_mem _ hy))]
  simp
theorem rdSets_rep (n:Int):∀(k:Nat) (m:List (ID × NSet)) (l:List Int),rdSets n k m l=rep (rdSet n) k m l
 | 0,m,l=>rfl
 | k+1,m,l=>by
  rw[rdSets,rep]
  congr 1
  funext p
  exact rdSets_rep n k p.1 p.2
theorem rdSet_e {n:Nat} {m:List (ID × NSet)} {i:ID} {s:NSet} (hk:i ∉ m.map (·.1)) (hn:n≤255) (hs:i.key.size≤255) (hv:I64 i.ver) (hm:s.mem.Nodup∧∀x∈s.mem,0≤x∧x<n) (t:List Int):rdSet n m (setB (i,s)++t)=some (m ++ [(i,⟨0,nsort s.mem⟩)],t):=by
 have hl:=nodup_range_len n s.mem hm.1 hm.2
 have hp:(nsort s.mem).Perm s.mem:=List.mergeSort_perm _ _
 unfold rdSet setB
 simp only[List.append_assoc]
 rw[rdID_e hs hv]
 simp only[Option.bind_some]
 rw[rd_e2 (by omega) (by omega)]
 simp only[Option.bind_some,Int.toNat_natCast]
 rw[mput_app hk,show s.mem.length=(nsort s.mem).length from (nsort_len _).symm,rdMems_e hk (by omega) (nsort s.mem) [] t (by simpa using hp.nodup_iff.2 hm.1) (fun x hx=>hm.2 x (hp.mem_iff.1 hx))]
 rfl
theorem rdLives_e {o:Int} (ho:o≤1000000):∀(ls d r t:List Int),r.length=ls.length→(∀x∈ls,0≤x∧x≤o)→rdLives o ls.length d.length (d++r) (ls.flatMap e8++t)=some (d++ls,t)
 | [],d,r,t,hl,_=>by
  have:r = []:=List.eq_nil_of_length_eq_zero hl
  subst this
  simp[rdLives]
 | x :: ls,d,[],t,hl,_=>by simp at hl
 | x :: ls,d,y :: r,t,hl,hr=>by
  have hx:=hr x (by simp)
  rw[List.length_cons,rdLives,List.flatMap_cons,List.append_assoc,rd_e8]
  simp only[Option.bind_some]
  rw[s64_e8 ⟨by omega,by omega⟩,if_pos hx]
  have e1:(d++y :: r).set d.length x=(d ++ [x])++r:=by simp
  have e2:d.length+1=(d ++ [x]).length:=by simp
  rw[e1,e2,rdLives_e ho ls (d ++ [x]) r t (by simpa using hl) (fun z hz=>hr z (List.mem_cons_of_mem _ hz))]
  simp
def mkB (s:List UInt8):ByteArray:=⟨s.toArray⟩
def canonC (m:List (Int × CallT)):List (Int × CallT):=(ikeys m).map fun k=>(k,cAt m k)
def valAt (m:List (ByteArray × Val)) (s:ByteArray):Val:=(mget m s).getD ⟨0,false⟩
def canonV (m:List (ByteArray × Val)):List (ByteArray × Val):=((bkeys m).map mkB).map fun s=>(s,valAt m s)
def canonP (m:List (ID × Pend)):List (ID × Pend):=(idkeys m).map fun i=>(i,pAt m i)
def memAt (m:List (ID × NSet)) (i:ID):List Int:=((mget m i).getD ⟨0,[]⟩).mem
def canonH (m:List (ID × NSet)):List (ID × NSet):=(idkeys m).map fun i=>(i,⟨0,nsort (memAt m i)⟩)
def canon (T:Tab):Tab:=mkN T.w T.offers T.next T.lives (canonC T.calls) (canonV T.values) (canonP T.pending) (canonH T.holds) (canonH T.refuses)
theorem mget_keys {K V:Type} [DecidableEq K] (f:K→V) (i:K):∀ks:List K,mget (ks.map fun k=>(k,f k)) i=if i∈ks then some (f i) else none
 | []=>rfl
 | k :: r=>by
  rw[List.map_cons,mget]
  by_cases e:k=i
  ·subst e;simp
  ·rw[if_neg e,mget_keys f i r]
   have:(i∈k :: r)=(i∈r):=propext ⟨fun h=>(List.mem_cons.1 h).resolve_left (fun h=>e h.symm),List.mem_cons_of_mem _⟩
   simp only[this]
theorem keys_keys {K V:Type} (f:K→V) (ks:List K):(ks.map fun k=>(k,f k)).map (·.1)=ks:=by rw[List.map_map];exact List.map_id ks
theorem mem_isSome {K V:Type} [DecidableEq K] {m:List (K × V)} {i:K}:i∈m.map (·.1)↔(mget m i).isSome=true:=by
 rw[mget_some_iff]
 constructor
 ·intro hm
  obtain⟨x,hx,rfl⟩:=List.mem_map.1 hm
  exact⟨x.2,hx⟩
 ·rintro⟨v,hv⟩
  exact List.mem_map.2 ⟨_,hv,rfl⟩
theorem mget_canon {K V:Type} [DecidableEq K] {m:List (K × V)} {d:V} {ks:List K} (h:∀i,i∈ks↔i∈m.map (·.1)) (i:K):mget (ks.map fun k=>(k,(mget m k).getD d)) i=mget m i:=by
 rw[mget_keys]
 cases e:mget m i with
 | none=>rw[if_neg (fun hi=>by have:=mem_isSome.1 ((h i).1 hi);rw[e] at this;cases this)]
 | some v=>rw[if_pos ((h i).2 (mem_isSome.2 (by rw[e];rfl)))];rfl
theorem ikeys_perm {V:Type} (m:List (Int × V)):(ikeys m).Perm (m.map (·.1)):=List.mergeSort_perm _ _
theorem bkeys_perm {V:Type} (m:List (ByteArray × V)):((bkeys m).map mkB).Perm (m.map (·.1)):=by
 have h:(bkeys m).Perm (m.map fun p=>p.1.data.toList):=List.mergeSort_perm _ _
 refine(h.map mkB).trans ?_
 rw[List.map_map]
 refine List.Perm.of_eq (List.map_congr_left fun p _=>?_)
 show(⟨p.1.data.toList.toArray⟩:ByteArray)=p.1
 simp
theorem idkeys_perm {V:Type} {m:List (ID × V)} (h:(m.map (·.1)).Nodup):(idkeys m).Perm (m.map (·.1)):=
 (List.perm_ext_iff_of_nodup (sortL_sorted h).nodup h).2 fun x=>mem_sortL h x
theorem seteq_canon {m:List (ID × NSet)} (h:(m.map (·.1)).Nodup) (i:ID):SetEq (mget m i) (mget (canonH m) i):=by
 unfold canonH
 rw[mget_keys (fun i=>(⟨0,nsort (memAt m i)⟩:NSet))]
 cases e:mget m i with
 | none=>rw[if_neg (fun hi=>by have:=mem_isSome.1 ((idkeys_perm h).mem_iff.1 hi);rw[e] at this;cases this)];exact Or.inl ⟨rfl,rfl⟩
 | some v=>
  rw[if_pos ((idkeys_perm h).mem_iff.2 (mem_isSome.2 (by rw[e];rfl)))]
  refine Or.inr ⟨v,_,rfl,rfl,?_⟩
  show v.mem.Perm (nsort (memAt m i))
  rw[show memAt m i=v.mem from by unfold memAt;rw[e];rfl]
  exact(List.mergeSort_perm _ _).symm
section
variable {T : Tab}
theorem canon_alike (h:Nod T):Alike T (canon T) where
 w:=rfl
 offers:=rfl
 next:=rfl
 lives:=rfl
 calls m:=mget_canon (fun i=>(ikeys_perm T.calls).mem_iff) m
 vals s:=mget_canon (fun i=>(bkeys_perm T.values).mem_iff) s
 pends i:=mget_canon (fun i=>(idkeys_perm h.p).mem_iff) i
 holds i:=seteq_canon h.h i
 refs i:=seteq_canon h.r i
theorem canon_nod (h:Nod T):Nod (canon T) where
 c:=by show((canonC T.calls).map (·.1)).Nodup;unfold canonC;rw[keys_keys];exact(ikeys_perm T.calls).nodup_iff.2 h.c
 v:=by show((canonV T.values).map (·.1)).Nodup;unfold canonV;rw[keys_keys];exact(bkeys_perm T.values).nodup_iff.2 h.v
 p:=by show((canonP T.pending).map (·.1)).Nodup;unfold canonP;rw[keys_keys];exact(idkeys_perm h.p).nodup_iff.2 h.p
 h:=by show((canonH T.holds).map (·.1)).Nodup;unfold canonH;rw[keys_keys];exact(idkeys_perm h.h).nodup_iff.2 h.h
 r:=by show((canonH T.refuses).map (·.1)).Nodup;unfold canonH;rw[keys_keys];exact(idkeys_perm h.r).nodup_iff.2 h.r
theorem canon_enc (h:Nod T):encT (canon T)=encT T:=(enc_alike (canon_alike h) h (canon_nod h)).symm
structure Told (n k:Nat) (T:Tab):Prop where
 inv:Inv n k T
 rng:Rng T
 tidy:Tidy T
 nod:Nod T
 cn:clampN n=n
 cw:clampW n k=k
 nx:T.next≤1000000
 of:T.offers≤1000000
 lc:T.calls.length≤1000000
 lv:T.values.length≤1000000
 lp:T.pending.length≤1000000
 lh:T.holds.length≤1000000
 lr:T.refuses.length≤1000000
variable {n k : Nat}
theorem Told.id (h:Told n k T) {i:ID} (hw:wantedB T i=true):i.key.size≤64∧1≤i.ver∧i.ver<T.next:=by
 unfold wantedB at hw
 rw[Bool.or_eq_true] at hw
 rcases hw with hw|hw
 ·cases e:mget T.pending i with
  | none=>rw[e] at hw;cases hw
  | some p=>
   have h1:=mget_mem e
   have h2:=h.inv.pv _ h1
   exact⟨(h.rng.p _ h1).k,h2.1,h2.2⟩
 ·simp only[Bool.and_eq_true,decide_eq_true_eq] at hw
  have hv:=h.inv.vv i.key
  unfold look at hw
  unfold lookV at hw hv
  cases e:mget T.values i.key with
  | none=>rw[e] at hw;simp at hw;omega
  | some v=>
   rw[e] at hw hv
   have h1:=h.rng.v _ (mget_mem e)
   simp only[Option.getD_some] at hw hv
   split at hw
   ·omega
   ·exact⟨h1.2,by omega,by omega⟩
theorem Told.pendId (h:Told n k T) {i:ID} (hp:(mget T.pending i).isSome=true):i.key.size≤64∧1≤i.ver∧i.ver<T.next:=h.id (by unfold wantedB;rw[hp];rfl)
theorem n_le {n:Nat} (h:clampN n=n):1≤n∧n≤255:=by unfold clampN at h;(repeat' split at h) <;> omega
theorem rdC_e (h:Told n k T) (t:List Int):(rd 4 (rowsC T.calls++t)).bind (fun c=>rep rdCall c.1 [] c.2)=some (canonC T.calls,t):=by
 have hp:=ikeys_perm T.calls
 have hl:T.calls.length=(ikeys T.calls).length:=by have:=hp.length_eq;simpa using this.symm
 unfold rowsC
 rw[List.append_assoc,rd_e4 h.lc]
 simp only[Option.bind_some]
 rw[hl,rep_rows rdCall (cOne T.calls) (cAt T.calls) (ikeys T.calls) [] t (hp.nodup_iff.2 h.nod.c) (fun _ _=>by simp) (fun i hi m t hk=>?_)]
 ·rfl
 ·have hs:=mem_isSome.1 (hp.mem_iff.1 hi)
  cases e:mget T.calls i with
  | none=>rw[e] at hs;cases hs
  | some x=>
   have ec:cAt T.calls i=x:=by unfold cAt;rw[e];rfl
   unfold cOne
   rw[ec]
   exact rdCall_e (h.rng.c _ (mget_mem e)) hk t
theorem rdV_e (h:Told n k T) (t:List Int):(rd 4 (rowsV T.values++t)).bind (fun c=>rep (rdVal T.next) c.1 [] c.2)=some (canonV T.values,t):=by
 have hp:=bkeys_perm T.values
 have hl:T.values.length=((bkeys T.values).map mkB).length:=by have:=hp.length_eq;simpa using this.symm
 have hr:rowsV T.values=e4 T.values.length++((bkeys T.values).map mkB).flatMap (fun s=>valB (s,valAt T.values s)):=by
  unfold rowsV
  rw[List.flatMap_map]
  rfl
 rw[hr,List.append_assoc,rd_e4 h.lv]
 simp only[Option.bind_some]
 rw[hl,rep_rows (rdVal T.next) (fun s=>valB (s,valAt T.values s)) (valAt T.values) ((bkeys T.values).map mkB) [] t (hp.nodup_iff.2 h.nod.v) (fun _ _=>by simp) (fun i hi m t hk=>?_)]
 ·rfl
 ·have hs:=mem_isSome.1 (hp.mem_iff.1 hi)
  cases e:mget T.values i with
  | none=>rw[e] at hs;cases hs
  | some x=>
   have ec:valAt T.values i=x:=by unfold valAt;rw[e];rfl
   have h1:=h.rng.v _ (mget_mem e)
   have h2:=(h.inv.vv i).1
   unfold lookV at h2
   rw[e] at h2
   rw[ec]
   exact rdVal_e h1.1 h2 h.nx (Nat.le_trans h1.2 (by decide)) hk t
theorem rdP_e (h:Told n k T) (t:List Int):(rd 4 (rowsP T.pending++t)).bind (fun c=>rep (rdPend T.next) c.1 [] c.2)=some (canonP T.pending,t):=by
 have hp:=idkeys_perm h.nod.p
 have hl:T.pending.length=(idkeys T.pending).length:=by have:=hp.length_eq;simpa using this.symm
 unfold rowsP
 rw[List.append_assoc,rd_e4 h.lp]
 simp only[Option.bind_some]
 rw[hl,rep_rows (rdPend T.next) (pOne T.pending) (pAt T.pending) (idkeys T.pending) [] t (hp.nodup_iff.2 h.nod.p) (fun _ _=>by simp) (fun i hi m t hk=>?_)]
 ·rfl
 ·have hs:=mem_isSome.1 (hp.mem_iff.1 hi)
  cases e:mget T.pending i with
  | none=>rw[e] at hs;cases hs
  | some x=>
   have ec:pAt T.pending i=x:=by unfold pAt;rw[e];rfl
   have h2:=h.inv.pv _ (mget_mem e)
   unfold pOne
   rw[ec]
   exact rdPend_e h2.1 h2.2 h.nx (h.rng.p _ (mget_mem e)) hk t
theorem rdH_e {m0:List (ID × NSet)} (hm:Mems n m0) (hn:n≤255) (hl0:m0.length≤1000000) (hid:∀p∈m0,p.1.key.size≤255∧I64 p.1.ver) (t:List Int):rdNodes n (rowsH m0++t)=some (canonH m0,t):=by
 have hp:=idkeys_perm hm.nodup
 have hl:m0.length=(idkeys m0).length:=by have:=hp.length_eq;simpa using this.symm
 unfold rdNodes rowsH
 rw[List.append_assoc,rd_e4 hl0]
 simp only[Option.bind_some]
 rw[rdSets_rep,hl,rep_rows (rdSet n) (hOne m0) (fun i=>⟨0,nsort (memAt m0 i)⟩) (idkeys m0) [] t (hp.nodup_iff.2 hm.nodup) (fun _ _=>by simp) (fun i hi m t hk=>?_)]
 ·rfl
 ·have hs:=mem_isSome.1 (hp.mem_iff.1 hi)
  cases e:mget m0 i with
  | none=>rw[e] at hs;cases hs
  | some x=>
   have ec:memAt m0 i=x.mem:=by unfold memAt;rw[e];rfl
   have h2:=hid _ (mget_mem e)
   unfold hOne
   rw[e,ec]
   exact rdSet_e hk hn h2.1 h2.2 (hm.mem _ (mget_mem e)) t
theorem dec_encT (h:Told n k T):decF (encT T)=some (canon T):=by
 have hn:=n_le h.cn
 have hln:=h.inv.ln
 have hw:=h.inv.w
 have hk:0≤(k:Int)∧(k:Int)≤65535:=by
  have:=h.cw
  unfold clampW at this
  (repeat' split at this) <;> omega
 have hid:∀i:ID,(i.key.size≤64∧1≤i.ver∧i.ver<T.next)→i.key.size≤255∧I64 i.ver:=fun i hi=>by
  have:=h.nx
  exact⟨by omega,by omega,by omega⟩
 have hof:I64 T.offers:=by have h1:=h.of;have h0:=h.inv.o0;exact⟨by omega,by omega⟩
 have hnx:I64 T.next:=by have h1:=h.nx;have h0:=h.inv.nx;exact⟨by omega,by omega⟩
 unfold decF encT
 simp only[List.append_assoc]
 rw[rd_e2 (by omega) (by omega)]
 simp only[Option.bind_some]
 rw[hw,rd_e2 hk.1 hk.2]
 simp only[Option.bind_some]
 rw[rd_e8]
 simp only[Option.bind_some]
 rw[rd_e8]
 simp only[Option.bind_some]
 rw[s64_e8 hof,s64_e8 hnx,hln,Int.toNat_natCast,Int.toNat_natCast,fX_yes h.cn h.cw h.inv.o0 h.inv.nx]
 unfold fL
 have hl:=rdLives_e (o:=T.offers) h.of T.lives [] (List.replicate n 0) (rowsC T.calls++(rowsV T.values++(rowsP T.pending++(rowsH T.holds++rowsH T.refuses)))) (by rw[List.length_replicate,hln]) h.inv.lo
 rw[hln] at hl
 rw[Nat.sub_zero,show(0:Nat)=([]:List Int).length from rfl,show List.replicate n (0:Int) = []++List.replicate n 0 from rfl,hl]
 simp only[Option.bind_some]
 have hc:=rdC_e h (rowsV T.values++(rowsP T.pending++(rowsH T.holds++rowsH T.refuses)))
 have hv:=rdV_e h (rowsP T.pending++(rowsH T.holds++rowsH T.refuses))
 have hp:=rdP_e h (rowsH T.holds++rowsH T.refuses)
 have hh:=rdH_e h.inv.hm hn.2 h.lh (fun p hp=>hid p.1 (h.id (h.tidy.h p hp).2)) (rowsH T.refuses)
 have hr:=rdH_e h.inv.rm hn.2 h.lr (fun p hp=>hid p.1 (h.pendId (h.tidy.r p hp).2)) []
 rw[List.append_nil] at hr
 have c1:∀{α β γ:Type} (a:Option α) (f:α→Option β) (g:β→Option γ),a.bind (fun x=>(f x).bind g)=(a.bind f).bind g:=fun a f g=>(Option.bind_assoc a f g).symm
 unfold fC0 fC
 rw[c1,hc]
 simp only[Option.bind_some]
 unfold fV0 fV
 rw[c1,hv]
 simp only[Option.bind_some]
 unfold fP0 fP
 rw[c1,hp]
 simp only[Option.bind_some]
 unfold fH
 rw[hh]
 simp only[Option.bind_some]
 unfold fR
 rw[hr]
 simp only[Option.bind_some]
 unfold canon mkN
 rw[hw,List.nil_append]
end
def Fair {α:Type} (Q:α→Prop) (sz:α→Nat) (f:α→List Int→Option (α × List Int)):Prop:=
 ∀a l a' l',BL l→Q a→f a l=some (a',l')→BL l'∧Q a'∧sz a'+l'.length≤sz a+l.length
theorem Fair.rep {α:Type} {Q:α→Prop} {sz:α→Nat} {f:α→List Int→Option (α × List Int)} (h:Fair Q sz f):∀k,Fair Q sz (Go.Proofs.YtjfelfjobeeenaaGreat.rep f k)
 | 0,a,l,a',l',hl,hq,e=>by
  simp only[Go.Proofs.YtjfelfjobeeenaaGreat.rep] at e
  cases e
  exact⟨hl,hq,Nat.le_refl _⟩
 | k+1,a,l,a',l',hl,hq,e=>by
  simp only[Go.Proofs.YtjfelfjobeeenaaGreat.rep] at e
  cases e1:f a l with
  | none=>rw[e1] at e;cases e
  | some p=>
   obtain⟨b,m⟩:=p
   rw[e1,Option.bind_some] at e
   obtain⟨h1,h2,h3⟩:=h a l b m hl hq e1
   obtain⟨h4,h5,h6⟩:=Fair.rep h k b m a' l' h1 h2 e
   exact⟨h4,h5,by omega⟩
theorem rd_len {n x:Nat} {l t:List Int} (h:rd n l=some (x,t)):t.length+n=l.length:=by
 unfold rd at h
 split at h
 ·cases h;rw[List.length_drop];omega
 ·cases h
theorem rdBit_some {l t:List Int} {b:Bool} (hl:BL l) (h:rdBit l=some (b,t)):BL t∧t.length+1=l.length:=by
 unfold rdBit at h
 cases e:rd 1 l with
 | none=>rw[e] at h;cases h
 | some p=>
  rw[e,Option.bind_some] at h
  split at h
  ·cases h;exact⟨(rd_some hl e).2.2,rd_len e⟩
  ·cases h
theorem rdID_some {l t:List Int} {i:ID} (hl:BL l) (h:rdID l=some (i,t)):BL t∧i.key.size≤255∧t.length+i.key.size+9=l.length:=by
 unfold rdID at h
 cases e:rdT l with
 | none=>rw[e] at h;cases h
 | some p=>
  rw[e,Option.bind_some] at h
  obtain⟨h1,h2,h3⟩:=rdT_some hl e
  cases e2:rd 8 p.2 with
  | none=>rw[e2] at h;cases h
  | some q=>
   rw[e2,Option.bind_some] at h
   cases h
   have h4:=rd_len e2
   have h5:=congrArg List.length h1
   simp only[List.length_append,be_len,strB_len] at h5
   exact⟨(rd_some h3 e2).2.2,by simp only;omega,by simp only;omega⟩
def szC (m:List (Int × CallT)):Nat:=21*m.length
def szV (m:List (ByteArray × Val)):Nat:=(m.map fun p=>p.1.size+10).sum
def szP (m:List (ID × Pend)):Nat:=(m.map fun p=>p.1.key.size+19).sum
def szH (m:List (ID × NSet)):Nat:=(m.map fun p=>p.1.key.size+11+2*p.2.mem.length).sum
theorem sum_mput {K V:Type} [DecidableEq K] (g:K × V→Nat) (k:K) (v:V) (c:Nat) (hc:g (k,v)≤c) (hv:∀u,g (k,v)≤g (k,u)):∀m:List (K × V),((mput m k v).map g).sum≤(m.map g).sum+c
 | []=>by simp[mput];exact hc
 | p :: r=>by
  rw[mput]
  by_cases e:p.1=k
  ·rw[if_pos e]
   have:=hv p.2
   rw[←e] at this
   simp only[List.map_cons,List.sum_cons]
   rw[←e]
   have h2:g p=g (p.1,p.2):=rfl
   omega
  ·rw[if_neg e]
   have:=sum_mput g k v c hc hv r
   simp only[List.map_cons,List.sum_cons]
   omega
def QC (m:List (Int × CallT)):Prop:=(m.map (·.1)).Nodup∧∀p∈m,0≤p.1∧p.1≤65535
theorem fair_call:Fair QC szC rdCall:=by
 intro a l a' l' hl hq e
 unfold rdCall at e
 cases e1:rd 2 l with
 | none=>rw[e1] at e;cases e
 | some p1=>
  rw[e1,Option.bind_some] at e
  have b1:=rd_some hl e1
  cases e2:rd 8 p1.2 with
  | none=>rw[e2] at e;cases e
  | some p2=>
   rw[e2,Option.bind_some] at e
   have b2:=rd_some b1.2.2 e2
   cases e3:rd 8 p2.2 with
   | none=>rw[e3] at e;cases e
   | some p3=>
    rw[e3,Option.bind_some] at e
    have b3:=rd_some b2.2.2 e3
    cases e4:rdBit p3.2 with
    | none=>rw[e4] at e;cases e
    | some p4=>
     rw[e4,Option.bind_some] at e
     have b4:=rdBit_some b3.2.2 e4
     cases e5:rd 2 p4.2 with
     | none=>rw[e5] at e;cases e
     | some p5=>
      rw[e5,Option.bind_some] at e
      have b5:=rd_some b4.1 e5
      cases e
      have l1:=rd_len e1
      have l2:=rd_len e2
      have l3:=rd_len e3
      have l5:=rd_len e5
      have hm:=mput_len a (p1.1:Int) (⟨s64 p2.1,s64 p3.1,p4.1,p5.1⟩:CallT)
      refine⟨b5.2.2,⟨mput_nodup hq.1 _ _,fun p hp=>?_⟩,?_⟩
      ·rcases mem_put hp with hp|rfl
       ·exact hq.2 p hp
       ·have:=b1.2.1;exact⟨by simp only;omega,by simp only;omega⟩
      ·unfold szC;omega
def QV (m:List (ByteArray × Val)):Prop:=(m.map (·.1)).Nodup∧∀p∈m,p.1.size≤255
theorem fair_val (x:Int):Fair QV szV (rdVal x):=by
 intro a l a' l' hl hq e
 unfold rdVal at e
 cases e1:rdID l with
 | none=>rw[e1] at e;cases e
 | some p1=>
  rw[e1,Option.bind_some] at e
  have b1:=rdID_some hl e1
  split at e
  case isFalse=>cases e
  cases e2:rdBit p1.2 with
  | none=>rw[e2] at e;cases e
  | some p2=>
   rw[e2,Option.bind_some] at e
   have b2:=rdBit_some b1.1 e2
   cases e
   refine⟨b2.1,⟨mput_nodup hq.1 _ _,fun p hp=>?_⟩,?_⟩
   ·rcases mem_put hp with hp|rfl
    ·exact hq.2 p hp
    ·exact b1.2.1
   ·have hs:=sum_mput (fun p:ByteArray × Val=>p.1.size+10) p1.1.key ⟨p1.1.ver,p2.1⟩ (p1.1.key.size+10) (Nat.le_refl _) (fun _=>Nat.le_refl _) a
    have l1:=b1.2.2
    have l2:=b2.2
    unfold szV
    omega
def QP (m:List (ID × Pend)):Prop:=(m.map (·.1)).Nodup
theorem fair_pend (x:Int):Fair QP szP (rdPend x):=by
 intro a l a' l' hl hq e
 unfold rdPend at e
 cases e1:rdID l with
 | none=>rw[e1] at e;cases e
 | some p1=>
  rw[e1,Option.bind_some] at e
  have b1:=rdID_some hl e1
  split at e
  case isFalse=>cases e
  cases e2:rd 2 p1.2 with
  | none=>rw[e2] at e;cases e
  | some p2=>
   rw[e2,Option.bind_some] at e
   have b2:=rd_some b1.1 e2
   cases e3:rd 8 p2.2 with
   | none=>rw[e3] at e;cases e
   | some p3=>
    rw[e3,Option.bind_some] at e
    have b3:=rd_some b2.2.2 e3
    cases e
    refine⟨b3.2.2,mput_nodup hq _ _,?_⟩
    have hs:=sum_mput (fun p:ID × Pend=>p.1.key.size+19) p1.1 ⟨(p2.1:Int),s64 p3.1⟩ (p1.1.key.size+19) (Nat.le_refl _) (fun _=>Nat.le_refl _) a
    have l1:=b1.2.2
    have l2:=rd_len e2
    have l3:=rd_len e3
    unfold szP
    omega
def QH (m:List (ID × NSet)):Prop:=(m.map (·.1)).Nodup∧∀p∈m,∀x∈p.2.mem,0≤x∧x≤65535
theorem sum_smod (i:ID) (f:List Int→List Int) (c:Nat) (hf:∀l,(f l).length≤l.length+c):∀m:List (ID × NSet),(m.map (·.1)).Nodup→szH (smod m i f)≤szH m+2*c
 | [],_=>by simp[smod,szH]
 | p :: r,hn=>by
  simp only[List.map_cons,List.nodup_cons] at hn
  unfold szH smod
  simp only[List.map_cons,List.sum_cons]
  by_cases e:p.1=i
  ·rw[if_pos e]
   have h1:(r.map fun p=>if p.1=i then (p.1,⟨p.2.blk,f p.2.mem⟩) else p)=r:=by
    conv=>rhs;rw[←List.map_id r]
    apply List.map_congr_left
    intro q hq
    rw[if_neg (fun e2=>hn.1 (List.mem_map.2 ⟨q,hq,e2.trans e.symm⟩))]
    rfl
   rw[h1]
   have h2:=hf p.2.mem
   simp only
   omega
  ·rw[if_neg e]
   have:=sum_smod i f c hf r hn.2
   unfold szH smod at this
   omega
theorem sput_len (l:List Int) (x:Int):(sput l x).length≤l.length+1:=by unfold sput;split <;> simp
theorem fair_mem (n:Int) (i:ID):Fair QH szH (rdMem n i):=by
 intro a l a' l' hl hq e
 unfold rdMem at e
 cases e1:rd 2 l with
 | none=>rw[e1] at e;cases e
 | some p1=>
  rw[e1,Option.bind_some] at e
  have b1:=rd_some hl e1
  split at e
  case isFalse=>cases e
  cases e
  refine⟨b1.2.2,⟨by rw[smod_keys];exact hq.1,fun p hp x hx=>?_⟩,?_⟩
  ·obtain⟨q,hq2,rfl⟩:=List.mem_map.1 hp
   have h0:=b1.2.1
   by_cases e2:q.1=i
   ·simp only[e2,if_true] at hx
    rcases(mem_sput _ _ _).1 hx with hx|rfl
    ·exact hq.2 q hq2 x hx
    ·exact⟨by omega,by omega⟩
   ·simp only[e2,if_false] at hx
    exact hq.2 q hq2 x hx
  ·have hs:=sum_smod i (fun l=>sput l (p1.1:Int)) 1 (fun l=>sput_len l _) a hq.1
   have l1:=rd_len e1
   omega
theorem rdMems_rep (n:Int) (i:ID):∀(k:Nat) (m:List (ID × NSet)) (l:List Int),rdMems n i k m l=rep (rdMem n i) k m l
 | 0,m,l=>rfl
 | k+1,m,l=>by
  rw[rdMems,rep]
  congr 1
  funext p
  exact rdMems_rep n i k p.1 p.2
theorem fair_set (n:Int):Fair QH szH (rdSet n):=by
 intro a l a' l' hl hq e
 unfold rdSet at e
 cases e1:rdID l with
 | none=>rw[e1] at e;cases e
 | some p1=>
  rw[e1,Option.bind_some] at e
  have b1:=rdID_some hl e1
  cases e2:rd 2 p1.2 with
  | none=>rw[e2] at e;cases e
  | some p2=>
   rw[e2,Option.bind_some,rdMems_rep] at e
   have b2:=rd_some b1.1 e2
   have hs:=sum_mput (fun p:ID × NSet=>p.1.key.size+11+2*p.2.mem.length) p1.1 ⟨0,[]⟩ (p1.1.key.size+11) (by simp) (fun u=>by simp) a
   have h1:=(fair_mem n p1.1).rep p2.1 (mput a p1.1 ⟨0,[]⟩) p2.2 a' l' b2.2.2 ⟨mput_nodup hq.1 _ _,fun p hp x hx=>by
    rcases mem_put hp with hp|rfl
    ·exact hq.2 p hp x hx
    ·cases hx⟩ e
   have l1:=b1.2.2
   have l2:=rd_len e2
   refine⟨h1.1,h1.2.1,?_⟩
   have h3:=h1.2.2
   unfold szH at h3 ⊢
   omega
theorem wf_small {x:Int} (h0 : -9223372036854775808≤x) (h1:x≤9223372036854775807):(Lit.int .i64 x).wf=true:=by
 simp[Lit.wf,IntKind.min,IntKind.max,IntKind.bits,IntKind.signed]
 omega
theorem flatL_len {α:Type} (f:α→List Int) (g:α→Nat) (l:List α) (h:∀a,(f a).length=g a):(l.flatMap f).length=(l.map g).sum:=by
 rw[List.length_flatMap]
 congr 1
 exact List.map_congr_left fun a _=>h a
theorem sum_const {α:Type} (c:Nat):∀l:List α,(l.map fun _=>c).sum=c*l.length
 | []=>by simp
 | a :: r=>by rw[List.map_cons,List.sum_cons,sum_const c r,List.length_cons,Nat.mul_succ];omega
theorem len_sz {α:Type} (g:α→Nat) (hg:∀a,1≤g a):∀l:List α,l.length≤(l.map g).sum
 | []=>by simp
 | a :: r=>by have:=hg a;have:=len_sz g hg r;simp only[List.map_cons,List.sum_cons,List.length_cons];omega
theorem le_sz {α:Type} (g:α→Nat):∀(l:List α) (a:α),a∈l→g a≤(l.map g).sum
 | [],a,h=>by cases h
 | b :: r,a,h=>by
  simp only[List.map_cons,List.sum_cons]
  rcases List.mem_cons.1 h with rfl|h
  ·omega
  ·have:=le_sz g r a h;omega
theorem rowsC_len (m:List (Int × CallT)):(rowsC m).length=4+szC m:=by
 unfold rowsC szC
 rw[List.length_append,e4_len,flatL_len (cOne m) (fun _=>21) _ (fun a=>callB_len _),sum_const,(ikeys_perm m).length_eq,List.length_map]
theorem rowsV_len (m:List (ByteArray × Val)):(rowsV m).length=4+szV m:=by
 have hr:rowsV m=e4 m.length++((bkeys m).map mkB).flatMap (fun s=>valB (s,valAt m s)):=by
  unfold rowsV
  rw[List.flatMap_map]
  rfl
 rw[hr,List.length_append,e4_len,flatL_len (fun s=>valB (s,valAt m s)) (fun s=>s.size+10) _ (fun a=>valB_len _),((bkeys_perm m).map _).sum_nat,List.map_map]
 rfl
theorem rowsP_len {m:List (ID × Pend)} (h:(m.map (·.1)).Nodup):(rowsP m).length=4+szP m:=by
 unfold rowsP
 rw[List.length_append,e4_len,flatL_len (pOne m) (fun i=>i.key.size+19) _ (fun a=>pendB_len _),((idkeys_perm h).map _).sum_nat,List.map_map]
 rfl
theorem rowsH_len {m:List (ID × NSet)} (h:(m.map (·.1)).Nodup):(rowsH m).length=4+szH m:=by
 unfold rowsH szH
 rw[List.length_append,e4_len,flatL_len (hOne m) (fun i=>i.key.size+11+2*(memAt m i).length) _ (fun a=>setB_len _),((idkeys_perm h).map _).sum_nat,List.map_map]
 congr 2
 refine List.map_congr_left fun p hp=>?_
 have e:=mget_of_mem h hp
 simp only[Function.comp]
 rw[show memAt m p.1=p.2.mem from by unfold memAt;rw[e];rfl]
theorem rdLives_some {o:Int}:∀(k i:Nat) (L l:List Int) (L' t:List Int),BL l→rdLives o k i L l=some (L',t)→L'.length=L.length∧t.length+8*k=l.length∧BL t
 | 0,i,L,l,L',t,hl,h=>by
  rw[rdLives] at h
  cases h
  exact⟨rfl,by omega,hl⟩
 | k+1,i,L,l,L',t,hl,h=>by
  rw[rdLives] at h
  cases e:rd 8 l with
  | none=>rw[e] at h;cases h
  | some p=>
   rw[e,Option.bind_some] at h
   split at h
   case isFalse=>cases h
   have h1:=rdLives_some k (i+1) _ _ _ _ (rd_some hl e).2.2 h
   have h2:=rd_len e
   rw[List.length_set] at h1
   exact⟨h1.1,by omega,h1.2.2⟩
theorem Fair.count {α:Type} {Q:α→Prop} {sz:α→Nat} {f:α→List Int→Option (α × List Int)} (h:Fair Q sz f) {a a':α} {l l':List Int} {c:Nat × List Int} (hl:BL l) (hq:Q a) (e1:rd 4 l=some c) (e:Go.Proofs.YtjfelfjobeeenaaGreat.rep f c.1 a c.2=some (a',l')):BL l'∧Q a'∧sz a'+l'.length+4≤sz a+l.length:=by
 have h1:=h.rep c.1 a c.2 a' l' (rd_some hl e1).2.2 hq e
 have h2:=rd_len e1
 exact⟨h1.1,h1.2.1,by omega⟩
theorem fits_of {L:Tab} {l:List Int} (hc:QC L.calls) (hv:QV L.values) (hp:QP L.pending) (hh:QH L.holds) (hr:QH L.refuses) (hn:L.lives.length≤255) (hs:20+8*L.lives.length+(4+szC L.calls)+(4+szV L.values)+(4+szP L.pending)+(4+szH L.holds)+(4+szH L.refuses)≤l.length) (hlen:l.length≤60000):TFit L:=by
 have c1:L.calls.length≤szC L.calls:=by unfold szC;omega
 have v1:L.values.length≤szV L.values:=len_sz _ (fun a=>by omega) _
 have p1:L.pending.length≤szP L.pending:=len_sz _ (fun a=>by omega) _
 have h1:L.holds.length≤szH L.holds:=len_sz _ (fun a=>by omega) _
 have r1:L.refuses.length≤szH L.refuses:=len_sz _ (fun a=>by omega) _
 have hset:∀m:List (ID × NSet),QH m→szH m≤60000→∀p∈m,Fits p.2.mem:=fun m hq hsz p hp=>by
  refine⟨fun x hx=>?_,?_⟩
  ·have:=hq.2 p hp x hx
   exact wf_small (by omega) (by omega)
  ·have:=le_sz (fun p:ID × NSet=>p.1.key.size+11+2*p.2.mem.length) m p hp
   unfold szH at hsz
   omega
 refine⟨by omega,fun p hq=>?_,by omega,fun p hq=>?_,by omega,by omega,by omega,by omega,hset _ hh (by omega),hset _ hr (by omega),?_⟩
 ·have:=hc.2 p hq
  exact wf_small (by omega) (by omega)
 ·have:=hv.2 p hq
  unfold maxLen
  omega
 ·unfold encT
  have e8s:(L.lives.flatMap e8).length=8*L.lives.length:=by rw[flatL_len e8 (fun _=>8) _ (fun a=>e8_len a),sum_const]
  simp only[List.length_append,e2_len,e8_len,rowsC_len,rowsV_len,rowsP_len hp,rowsH_len hh.1,rowsH_len hr.1,e8s]
  omega
theorem tfit_dec {l:List Int} {L:Tab} (hl:BL l) (hlen:l.length≤60000) (h:decF l=some L):TFit L:=by
 unfold decF at h
 cases e1:rd 2 l with
 | none=>rw[e1] at h;cases h
 | some n=>
 rw[e1,Option.bind_some] at h
 have b1:=rd_some hl e1
 have l1:=rd_len e1
 cases e2:rd 2 n.2 with
 | none=>rw[e2] at h;cases h
 | some w=>
 rw[e2,Option.bind_some] at h
 have b2:=rd_some b1.2.2 e2
 have l2:=rd_len e2
 cases e3:rd 8 w.2 with
 | none=>rw[e3] at h;cases h
 | some o=>
 rw[e3,Option.bind_some] at h
 have b3:=rd_some b2.2.2 e3
 have l3:=rd_len e3
 cases e4:rd 8 o.2 with
 | none=>rw[e4] at h;cases h
 | some x=>
 rw[e4,Option.bind_some] at h
 have b4:=rd_some b3.2.2 e4
 have l4:=rd_len e4
 unfold fX at h
 split at h
 case isFalse=>cases h
 rename_i hf
 simp only[fits0,Bool.and_eq_true,decide_eq_true_eq] at hf
 have hn:=n_le hf.1.1.1
 unfold fL at h
 cases e5:rdLives (s64 o.1) n.1 0 (List.replicate n.1 0) x.2 with
 | none=>rw[e5] at h;cases h
 | some li=>
 rw[e5,Option.bind_some] at h
 have b5:=rdLives_some _ _ _ _ _ _ b4.2.2 e5
 rw[List.length_replicate] at b5
 unfold fC0 at h
 cases e6:rd 4 li.2 with
 | none=>rw[e6] at h;cases h
 | some c6=>
 rw[e6,Option.bind_some] at h
 unfold fC at h
 cases e7:rep rdCall c6.1 [] c6.2 with
 | none=>rw[e7] at h;cases h
 | some ca=>
 rw[e7,Option.bind_some] at h
 have b7:=fair_call.count (a:=[]) b5.2.2 ⟨by simp,fun p hp=>by cases hp⟩ e6 e7
 unfold fV0 at h
 cases e8:rd 4 ca.2 with
 | none=>rw[e8] at h;cases h
 | some c8=>
 rw[e8,Option.bind_some] at h
 unfold fV at h
 cases e9:rep (rdVal (s64 x.1)) c8.1 [] c8.2 with
 | none=>rw[e9] at h;cases h
 | some va=>
 rw[e9,Option.bind_some] at h
 have b9:=(fair_val (s64 x.1)).count (a:=[]) b7.1 ⟨by simp,fun p hp=>by cases hp⟩ e8 e9
 unfold fP0 at h
 cases e10:rd 4 va.2 with
 | none=>rw[e10] at h;cases h
 | some c10=>
 rw[e10,Option.bind_some] at h
 unfold fP at h
 cases e11:rep (rdPend (s64 x.1)) c10.1 [] c10.2 with
 | none=>rw[e11] at h;cases h
 | some pe=>
 rw[e11,Option.bind_some] at h
 have b11:=(fair_pend (s64 x.1)).count (a:=[]) b9.1 (by simp[QP]) e10 e11
 unfold fH rdNodes at h
 cases e12:rd 4 pe.2 with
 | none=>rw[e12] at h;cases h
 | some c12=>
 rw[e12] at h
 simp only[Option.bind_some] at h
 rw[rdSets_rep] at h
 cases e13:rep (rdSet n.1) c12.1 [] c12.2 with
 | none=>rw[e13] at h;cases h
 | some ho=>
 rw[e13,Option.bind_some] at h
 have b13:=(fair_set n.1).count (a:=[]) b11.1 ⟨by simp,fun p hp=>by cases hp⟩ e12 e13
 unfold fR rdNodes at h
 cases e14:rd 4 ho.2 with
 | none=>rw[e14] at h;cases h
 | some c14=>
 rw[e14] at h
 simp only[Option.bind_some] at h
 rw[rdSets_rep] at h
 cases e15:rep (rdSet n.1) c14.1 [] c14.2 with
 | none=>rw[e15] at h;cases h
 | some re=>
 rw[e15,Option.bind_some] at h
 have b15:=(fair_set n.1).count (a:=[]) b13.1 ⟨by simp,fun p hp=>by cases hp⟩ e14 e15
 cases h
 have z1:szC []=0:=rfl
 have z2:szV []=0:=rfl
 have z3:szP []=0:=rfl
 have z4:szH []=0:=rfl
 refine fits_of (l:=l) b7.2.1 b9.2.1 b11.2.1 b13.2.1 b15.2.1 (by show li.1.length≤255;omega) ?_ hlen
 show 20+8*li.1.length+(4+szC ca.1)+(4+szV va.1)+(4+szP pe.1)+(4+szH ho.1)+(4+szH re.1)≤l.length
 have h7:=b7.2.2
 have h9:=b9.2.2
 have h11:=b11.2.2
 have h13:=b13.2.2
 have h15:=b15.2.2
 omega
end Go.Proofs.YtjfelfjobeeenaaGreat
