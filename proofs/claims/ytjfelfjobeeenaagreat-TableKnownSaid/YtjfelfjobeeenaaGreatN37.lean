/- TableLives' table, step by step: the plain law. Conditions: none, or as the theorems say. -/
import Derived.Test.YtjfelfjobeeenaaGreatN16
namespace Go.Proofs.YtjfelfjobeeenaaGreat
set_option maxHeartbeats 200000000
set_option linter.unusedVariables false
set_option linter.unusedSimpArgs false
open Go.RowKit Go.Sf Go.Shelf
def tl (k o nx:Int) (zv0:List Int) (calls:List (Int × yz)) (vals:List (ByteArray × Val)) (pend:List (ID × xd)) (holds:List (ID × ye)):Tab:=⟨k,o,nx,zv0,calls,vals,pend,holds,[],0,0,0,0,0,0⟩
def hs (i:ID) (M:List Int):List (ID × ye):=if M = [] then [] else [(i,⟨0,M⟩)]
theorem ztq (i:ID) (M:List Int):memH (hs i M) i=M:=by
 unfold hs memH
 split
 ·rename_i h;rw[h];rfl
 ·simp[zt]
theorem hs_sadd (i:ID) (M:List Int) (a:Int):Zb (hs i M) i a 0=hs i (um M a):=by
 unfold hs
 by_cases h:M = []
 ·subst h;simp[Zb,zt,um]
 ·have h2:um M a≠[]:=by unfold um;split <;> simp_all
  rw[if_neg h,if_neg h2];simp[Zb,zt,ql]
theorem hs_sdel (i:ID) (M:List Int) (a:Int):(xi (hs i M) a).filter (fun p=>!decide (p.2.mem.length=0))=hs i (Zc M a):=by
 unfold hs
 by_cases h:M = []
 ·subst h;simp[xi,Zc]
 ·rw[if_neg h]
  simp only[xi,List.map_cons,List.map_nil,List.filter_cons,List.filter_nil]
  by_cases h2:Zc M a = []
  ·simp[h2]
  ·have h3:¬(Zc M a).length=0:=fun e=>h2 (List.eq_nil_of_length_eq_zero e)
   simp[h2]
section
variable {k o nx : Int} {zv0 : List Int} {calls : List (Int × yz)} {vals : List (ByteArray × Val)} {pend : List (ID × xd)} {i : ID} {M : List Int}
theorem zc8 (hw:yl (tl k o nx zv0 calls vals pend (hs i M)) i=true∨M = []):jt (tl k o nx zv0 calls vals pend (hs i M))=tl k o nx zv0 calls vals pend (hs i M):=by
 unfold jt;have h1:(tl k o nx zv0 calls vals pend (hs i M)).zv2 = []:=rfl;have h2:(hs i M).filter (fun p=>!qu (tl k o nx zv0 calls vals pend (hs i M)) p.1 p.2)=hs i M:=by
  by_cases h:M = []
  ·subst h;rfl
  ·have hw':yl (tl k o nx zv0 calls vals pend (hs i M)) i=true:=hw.resolve_right h
   have e:hs i M = [(i,⟨0,M⟩)]:=if_neg h;have hl:¬M.length=0:=fun e=>h (List.eq_nil_of_length_eq_zero e)
   generalize tl k o nx zv0 calls vals pend (hs i M)=T at *;rw[e];simp[qu,hw',h]
 rw[h1]
 show Tab.mk _ _ _ _ _ _ _ _ _ _ _ _ _ _ _=_
 have h3:(tl k o nx zv0 calls vals pend (hs i M)).holds=hs i M:=rfl;rw[h3,h2]
 rfl
theorem zh1 (hw:yl (tl k (o+1) nx zv0 calls vals pend (hs i M)) i=true∨M = []):uc (tl k o nx zv0 calls vals pend (hs i M)) ⟨1,0,0,0,0,0,⟨#[]⟩,0⟩=tl k (o+1) nx zv0 calls vals pend (hs i M):=by
 unfold uc doT;have:opT (tl k o nx zv0 calls vals pend (hs i M)) ⟨1,0,0,0,0,0,⟨#[]⟩,0⟩ 0=tl k (o+1) nx zv0 calls vals pend (hs i M):=rfl;rw[this]
 exact zc8 hw
theorem zjt (a:Nat) (zvx:Int) (hB:Xb (tl k o nx zv0 calls vals pend (hs i M)) ⟨2,a,0,zvx,0,0,⟨#[]⟩,0⟩=true) (hw:yl (tl k o nx (zv0.set a zvx) calls vals pend (xi (hs i M) a)) i=true∨M = []) :
  uc (tl k o nx zv0 calls vals pend (hs i M)) ⟨2,a,0,zvx,0,0,⟨#[]⟩,0⟩=tl k o nx (zv0.set a zvx) calls vals pend (hs i (Zc M a)):=by
 unfold uc doT;have:opT (tl k o nx zv0 calls vals pend (hs i M)) ⟨2,a,0,zvx,0,0,⟨#[]⟩,0⟩ 0=tl k o nx (zv0.set a zvx) calls vals pend (xi (hs i M) a):=by
  show Xu _ _=_
  unfold Xu;rw[if_pos hB]
  rfl
 rw[this];unfold jt;have h2:(xi (hs i M) a).filter (fun p=>!qu (tl k o nx (zv0.set a zvx) calls vals pend (xi (hs i M) a)) p.1 p.2)=hs i (Zc M a):=by
  rw[←hs_sdel]
  apply List.filter_congr
  intro p hp;have:p.1=i:=by
   unfold hs xi at hp
   split at hp
   ·simp at hp
   ·simp only[List.map_cons,List.map_nil,List.mem_singleton] at hp;rw[hp]
  rcases hw with hw|hM
  ·rw[this]
   unfold qu;rw[hw];simp
  ·subst hM
   simp[hs,xi] at hp
 have h1:(tl k o nx (zv0.set a zvx) calls vals pend (xi (hs i M) a)).zv2 = []:=rfl;have h3:(tl k o nx (zv0.set a zvx) calls vals pend (xi (hs i M) a)).holds=xi (hs i M) a:=rfl;rw[h1,h3,h2]
 rfl
theorem zpn (c:Cmd) (hk:c.kind=4) (hB:Qk (tl k o nx zv0 calls vals pend (hs i M)) c=false) (hw:yl (tl k o nx zv0 calls vals pend (hs i M)) i=true∨M = []) :
  uc (tl k o nx zv0 calls vals pend (hs i M)) c=tl k o nx zv0 calls vals pend (hs i M):=by
 unfold uc doT;have:opT (tl k o nx zv0 calls vals pend (hs i M)) c 0=tl k o nx zv0 calls vals pend (hs i M):=by
  unfold opT;rw[hk]
  show Qs _ c 0=_
  unfold Qs;rw[hB];rfl
 rw[this]
 exact zc8 hw
end
section
variable {k o nx : Int} {zv0 : List Int} {M : List Int} {key : ByteArray}
def opn (k o:Int) (zv0:List Int) (key:ByteArray) (M:List Int):Tab:=tl k o 2 zv0 [(1,⟨1,1,false,0⟩)] [] [(⟨key,1⟩,⟨1,1⟩)] (hs ⟨key,1⟩ M)
def dne (k o:Int) (zv0:List Int) (key:ByteArray) (M:List Int):Tab:=tl k o 2 zv0 [(1,⟨1,1,true,0⟩)] [(key,⟨1,false⟩)] [] (hs ⟨key,1⟩ M)
theorem Uz:yl (opn k o zv0 key M) ⟨key,1⟩=true:=by
 simp[yl,opn,tl,zt]
theorem zls:look (dne k o zv0 key M) key=1:=by
 simp[look,lookV,dne,tl,zt]
theorem zoe:yl (dne k o zv0 key M) ⟨key,1⟩=true:=by
 have:=zls (k:=k) (o:=o) (zv0:=zv0) (key:=key) (M:=M);simp[yl,this]
theorem zdl:memH (opn k o zv0 key M).holds ⟨key,1⟩=M:=ztq _ M
theorem dne_mem:memH (dne k o zv0 key M).holds ⟨key,1⟩=M:=ztq _ M
theorem ztf:(callV (dne k o zv0 key M) 1).zvy=1∧(callV (dne k o zv0 key M) 1).zvz=1∧(callV (dne k o zv0 key M) 1).done=true∧(callV (dne k o zv0 key M) 1).code=0:=⟨rfl,rfl,rfl,rfl⟩
theorem zpm:uc (tl k o 1 zv0 [] [] [] []) ⟨3,0,1,0,1,0,key,0⟩=opn k o zv0 key []:=rfl
theorem zrx:uc (opn k o zv0 key M) ⟨1,0,0,0,0,0,⟨#[]⟩,0⟩=opn k (o+1) zv0 key M:=zh1 (Or.inl Uz)
theorem zug (a:Nat) (zvx:Int) (hB:Xb (opn k o zv0 key M) ⟨2,a,0,zvx,0,0,⟨#[]⟩,0⟩=true):uc (opn k o zv0 key M) ⟨2,a,0,zvx,0,0,⟨#[]⟩,0⟩=opn k o (zv0.set a zvx) key (Zc M a):=
 zjt a zvx hB (Or.inl (by simp[yl,tl,zt]))
theorem zry (a:Nat) (zvx:Int) (h:Vi (opn k o zv0 key M) ⟨4,a,0,zvx,0,1,key,0⟩=false):uc (opn k o zv0 key M) ⟨4,a,0,zvx,0,1,key,0⟩=opn k o zv0 key M:=
 zpn _ rfl (by unfold Qk;unfold opn at h;rw[h];rfl) (Or.inl Uz)
theorem zl3 (a:Nat):uj (opn k o zv0 key M) ⟨key,1⟩ a 0=opn k o zv0 key (um M a):=by
 unfold uj opn tl;simp only[hs_sadd]
 rfl
theorem zqe (a:Nat) (zvx:Int) (h:Vi (opn k o zv0 key M) ⟨4,a,0,zvx,0,1,key,0⟩=true) (hl:((um M a).length:Int)<k):uc (opn k o zv0 key M) ⟨4,a,0,zvx,0,1,key,0⟩=opn k o zv0 key (um M a):=by
 unfold uc doT;have h1:opT (opn k o zv0 key M) ⟨4,a,0,zvx,0,1,key,0⟩ 0=opn k o zv0 key (um M a):=by
  show Qs _ _ 0=_
  unfold Qs Qk;rw[h,Uz];simp only[Bool.and_self,if_true];rw[zl3];unfold jn;have h2:zt (opn k o zv0 key (um M a)).pending ⟨key,1⟩=some ⟨1,1⟩:=if_pos rfl;have hw:(opn k o zv0 key (um M a)).w=k:=rfl;simp only[h2,zdl,hw];rw[if_pos hl]
 rw[h1]
 exact zc8 (Or.inl Uz)
theorem zuf (a:Nat) (zvx:Int) (h:Vi (opn k o zv0 key M) ⟨4,a,0,zvx,0,1,key,0⟩=true) (hl:¬((um M a).length:Int)<k):uc (opn k o zv0 key M) ⟨4,a,0,zvx,0,1,key,0⟩=dne k o zv0 key (um M a):=by
 unfold uc doT;have h1:opT (opn k o zv0 key M) ⟨4,a,0,zvx,0,1,key,0⟩ 0=dne k o zv0 key (um M a):=by
  show Qs _ _ 0=_
  unfold Qs Qk;rw[h,Uz];simp only[Bool.and_self,if_true];rw[zl3];unfold jn;have h2:zt (opn k o zv0 key (um M a)).pending ⟨key,1⟩=some ⟨1,1⟩:=if_pos rfl;have hw:(opn k o zv0 key (um M a)).w=k:=rfl;have h3:(lookV (opn k o zv0 key (um M a)) key).zvz<1:=(by decide:(0:Int)<1)
  simp only[h2,zdl,hw];rw[if_neg hl,if_pos h3];have h4:Ug (opn k o zv0 key (um M a)).pending ⟨key,1⟩ = []:=by simp[Ug,opn,tl]
  have h5:Zl (opn k o zv0 key (um M a)) ⟨key,1⟩ ⟨1,1⟩ 0 = [(1,⟨1,1,true,0⟩)]:=rfl;unfold jw;rw[h4,h5]
  rfl
 rw[h1]
 exact zc8 (Or.inl zoe)
end
theorem zf8 {L:Tab} {c:Cmd} (hr:L.zv2 = []) (ho:0≤L.offers∧L.offers<1000000) (hn:0≤L.next∧L.next<1000000) (hl:L.zv0.length≤1000000) (hb:c=vj c) (hk:1≤c.kind∧c.kind≤7) (hnode:0≤c.node∧c.node<(L.zv0.length:Int)∧c.node<255)
  (h1:0≤c.zvx∧c.zvx≤1000000) (h2:0≤c.zvy∧c.zvy≤1000000) (h3:0≤c.zvz∧c.zvz≤1000000) (h4:0≤c.zvw∧c.zvw≤65535) (h5:0≤c.code∧c.code≤65535) (h6:c.key.size≤64):Yx L c=true:=by
 unfold Yx;simp only[ua,zcg,Qf,Bool.and_eq_true,decide_eq_true_eq];refine⟨⟨⟨hr,ho.1,by omega,hn.1,by omega,by omega⟩,⟨⟨⟨⟨⟨hk.1,hk.2⟩,hb⟩,h1.1,by omega,h2.1,by omega,h3.1,by omega⟩,hnode.1,hnode.2.2,h4.1,h4.2,h5.1,h5.2⟩,h6⟩⟩,hnode.2.1,hk.1,hk.2,hnode.1,by omega⟩
def lvA (n a:Nat):List Int:=(List.range n).map fun i=>if i<a then (i:Int)+1 else 0
def lvD (n d:Nat):List Int:=(lvA n n).set d ((n:Int)+1)
def rg (a:Nat):List Int:=(List.range a).map fun (i:Nat)=>(i:Int)
theorem uq (n a:Nat):(lvA n a).length=n:=by simp[lvA]
theorem Uw (n d:Nat):(lvD n d).length=n:=by simp[lvD,lvA]
theorem zt1 (n:Nat):lvA n 0=List.replicate n 0:=by
 apply List.ext_getElem <;> simp[lvA]
theorem zt0 (n a:Nat) (h:a<n):(lvA n a).set a ((a:Int)+1)=lvA n (a+1):=by
 apply List.ext_getElem
 ·simp[lvA]
 ·intro i h1 h2
  simp only[lvA,List.getElem_set,List.getElem_map,List.getElem_range]
  by_cases e:a=i
  ·subst e;simp
  ·rw[if_neg e]
   by_cases h3:i<a
   ·rw[if_pos h3,if_pos (by omega)]
   ·rw[if_neg h3,if_neg (by omega)]
theorem zko (n a i:Nat) (h:i<n):(lvA n a).getD i 0=if i<a then (i:Int)+1 else 0:=by
 simp[lvA,List.getD_eq_getElem?_getD,h]
theorem lvD_get (n d i:Nat) (hd:d<n) (h:i<n):(lvD n d).getD i 0=if i=d then (n:Int)+1 else (i:Int)+1:=by
 unfold lvD;simp only[List.getD_eq_getElem?_getD,List.getElem?_set]
 by_cases e:d=i
 ·subst e;simp[lvA,hd]
 ·have e2:¬i=d:=fun h=>e h.symm
  simp[e,e2,lvA,h]
theorem zbx {T:Tab} (a:Nat) (h:a<T.zv0.length):yq T a=T.zv0.getD a 0:=by
 unfold yq;rw[if_neg (by omega)]
 simp
theorem zb6 (a:Nat):(rg a).length=a:=by simp[rg]
theorem zhm (a:Nat) (x:Int):x∈rg a↔0≤x∧x<a:=by
 unfold rg;simp only[List.mem_map,List.mem_range]
 constructor
 ·rintro⟨i,h,rfl⟩;omega
 ·intro h;exact⟨x.toNat,by omega,by omega⟩
theorem zk0 (a:Nat):um (rg a) a=rg (a+1):=by
 unfold um;rw[if_neg (by rw[zhm];omega)]
 simp[rg,List.range_succ]
theorem zuy (a:Nat):(rg a).Nodup:=by
 induction a with
 | zero=>simp[rg]
 | succ a ih=>
  rw[←zk0];unfold um;have hn:¬((a:Int)∈rg a):=by rw[zhm];omega
  rw[if_neg hn];rw[List.nodup_append];refine⟨ih,by simp,?_⟩
  intro x hx y hy;simp only[List.mem_singleton] at hy;subst hy;intro e;subst e;exact hn hx
theorem zu5 {l:List Int} (h:l.Nodup) (x:Int):(Zc l x).length=l.length-if x∈l then 1 else 0:=by
 unfold Zc
 induction l with
 | nil=>simp
 | cons a r ih=>
  simp only[List.nodup_cons] at h;have ih:=ih h.2
  by_cases e:a=x
  ·subst e
   have h2:r.filter (fun y=>decide (y≠a))=r:=List.filter_eq_self.2 (fun y hy=>by simp;intro e;subst e;exact h.1 hy)
   simp only[List.filter_cons,ne_eq,not_true_eq_false,decide_false,Bool.false_eq_true,if_false,List.mem_cons,true_or,if_true,List.length_cons];rw[h2];omega
  ·have e2:¬x=a:=fun h=>e h.symm
   simp only[List.filter_cons,ne_eq,e,not_false_eq_true,decide_true,if_true,List.length_cons,List.mem_cons,e2,false_or];rw[ih]
   by_cases hx:x∈r
   ·have:0<r.length:=List.length_pos_of_mem hx
    simp[hx];omega
   ·simp[hx]
theorem all_le (n:Nat):∀M:List Int,(∀i:Nat,i<n→(i:Int)∈M)→n≤M.length:=by
 induction n with
 | zero=>intro M _;omega
 | succ n ih=>
  intro M h;have hn:(n:Int)∈M:=h n (by omega)
  have h2:=ih (M.erase n) (fun i hi=>(List.mem_erase_of_ne (by omega)).2 (h i (by omega)))
  rw[List.length_erase_of_mem hn] at h2;have:0<M.length:=List.length_pos_of_mem hn;omega
theorem zsm (M:List Int) (a:Int):(um M a).length≤M.length+1:=by
 unfold um;split <;> simp
theorem znw (M:List Int) (a x:Int):x∈um M a↔x∈M∨x=a:=by
 unfold um
 split
 ·constructor
  ·exact Or.inl
  ·rintro(h|rfl) <;> assumption
 ·simp
def stA (n k a:Nat):Tab:=tl k a 1 (lvA n a) [] [] [] []
theorem stA_new (n k:Nat) (hk:1≤k) (hn:k≤n):(qn n k 0).norm=stA n k 0:=by
 have:yu n k=k:=by unfold yu;rw[if_neg (by omega),if_neg (by omega)]
 unfold qn stA tl;rw[this,zt1]
 rfl
def stB (n k a:Nat):Tab:=tl k ((a:Int)+1) 1 (lvA n a) [] [] [] []
theorem zso (n k a:Nat):uc (stA n k a) ⟨1,0,0,0,0,0,⟨#[]⟩,0⟩=stB n k a:=zh1 (i:=⟨⟨#[]⟩,0⟩) (M:=[]) (Or.inr rfl)
theorem zvd (n k a:Nat) (h:a<n):uc (stB n k a) ⟨2,a,0,(a:Int)+1,0,0,⟨#[]⟩,0⟩=stA n k (a+1):=by
 have hL:yq (stB n k a) a=0:=by
  rw[zbx a (by show a<(lvA n a).length;rw[uq];exact h)]
  show(lvA n a).getD a 0=0
  rw[zko n a a h,if_neg (by omega)]
 have hB:Xb (stB n k a) ⟨2,a,0,(a:Int)+1,0,0,⟨#[]⟩,0⟩=true:=by
  unfold Xb;have ho:(stB n k a).offers=(a:Int)+1:=rfl;simp only[hL,ho];have h1:¬((a:Int)+1≤0):=by omega
  have h2:¬((a:Int)+1<(a:Int)+1):=by omega
  simp[h1,h2]
 have:=zjt (i:=⟨⟨#[]⟩,0⟩) (M:=[]) (k:=k) (o:=(a:Int)+1) (nx:=1) (zv0:=lvA n a) (calls:=[]) (vals:=[]) (pend:=[]) a ((a:Int)+1) hB (Or.inr rfl);rw[zt0 n a h] at this
 exact this
section
variable {n k a d : Nat} {key : ByteArray}
def stC (n k a:Nat) (key:ByteArray):Tab:=opn k n (lvA n n) key (rg a)
theorem zsn:uc (stA n k n) ⟨3,0,1,0,1,0,key,0⟩=stC n k 0 key:=zpm
theorem stC_ack (h:a+1<k) (hk:k≤n):uc (stC n k a key) ⟨4,a,0,(a:Int)+1,0,1,key,0⟩=stC n k (a+1) key:=by
 have hL:yq (stC n k a key) a=(a:Int)+1:=by
  rw[zbx a (by show a<(lvA n n).length;rw[uq];omega)]
  show(lvA n n).getD a 0=_
  rw[zko n n a (by omega),if_pos (by omega)]
 have hn:Vi (stC n k a key) ⟨4,a,0,(a:Int)+1,0,1,key,0⟩=true:=by
  unfold Vi;simp only[hL];simp <;> omega
 have h2:((um (rg a) a).length:Int)<(k:Int):=by rw[zk0,zb6];omega
 have:=zqe (k:=k) (o:=n) (zv0:=lvA n n) (M:=rg a) (key:=key) a ((a:Int)+1) hn h2;rw[zk0] at this
 exact this
def zbc (k d:Nat):List Int:=Zc (rg (k-1)) d
def zfc (k d:Nat):Nat:=k-1-if d<k-1 then 1 else 0
theorem zg6:(zbc k d).length=zfc k d:=by
 unfold zbc zfc;rw[zu5 (zuy _),zb6];have:((d:Int)∈rg (k-1))↔d<k-1:=by rw[zhm];omega
 simp only[this]
theorem zmh (x:Int) (h:x∈zbc k d):0≤x∧x<k:=by
 unfold zbc Zc at h;have:=(zhm _ _).1 (List.mem_filter.1 h).1;omega
def stO (n k:Nat) (key:ByteArray):Tab:=opn k ((n:Int)+1) (lvA n n) key (rg (k-1))
def stD (n k d:Nat) (key:ByteArray) (M:List Int):Tab:=opn k ((n:Int)+1) (lvD n d) key M
theorem zsp:uc (stC n k (k-1) key) ⟨1,0,0,0,0,0,⟨#[]⟩,0⟩=stO n k key:=zrx
theorem zvf (h:d<n):uc (stO n k key) ⟨2,d,0,(n:Int)+1,0,0,⟨#[]⟩,0⟩=stD n k d key (zbc k d):=by
 have hL:yq (stO n k key) d=(d:Int)+1:=by
  rw[zbx d (by show d<(lvA n n).length;rw[uq];exact h)]
  show(lvA n n).getD d 0=_
  rw[zko n n d h,if_pos h]
 have hB:Xb (stO n k key) ⟨2,d,0,(n:Int)+1,0,0,⟨#[]⟩,0⟩=true:=by
  unfold Xb;have ho:(stO n k key).offers=(n:Int)+1:=rfl;simp only[hL,ho];have h1:¬((n:Int)+1≤(d:Int)+1):=by omega
  have h2:¬((n:Int)+1<(n:Int)+1):=by omega
  simp[h1,h2]
 exact zug d ((n:Int)+1) hB
theorem zca (hd:d<n) (h:a<n) (M:List Int):yq (stD n k d key M) a=if a=d then (n:Int)+1 else (a:Int)+1:=by
 rw[zbx a (by show a<(lvD n d).length;rw[Uw];exact h)]
 show(lvD n d).getD a 0=_
 rw[lvD_get n d a hd h]
theorem zsq (h:d<n) (M:List Int):uc (stD n k d key M) ⟨4,d,0,(d:Int)+1,0,1,key,0⟩=stD n k d key M:=by
 refine zry d ((d:Int)+1) ?_;have hL:=zca (k:=k) (key:=key) h h M;rw[if_pos rfl] at hL
 change yq (opn k ((n:Int)+1) (lvD n d) key M) d=_ at hL
 unfold Vi;simp only[hL];simp;omega
def stE (n k d:Nat) (key:ByteArray) (M:List Int):Tab:=dne k ((n:Int)+1) (lvD n d) key M
theorem zqt (hd:d<n) (h:a<n) (M:List Int):Vi (stD n k d key M) ⟨4,a,0,yq (stD n k d key M) a,0,1,key,0⟩=true:=by
 unfold Vi;simp only[zca hd h M]
 split <;> simp <;> omega
theorem stD_ack (hd:d<n) (h:a<n) (M:List Int) (hl:(um M a).length<k):uc (stD n k d key M) ⟨4,a,0,yq (stD n k d key M) a,0,1,key,0⟩=stD n k d key (um M a):=
 zqe a _ (zqt hd h M) (by omega)
theorem zve (hd:d<n) (h:a<n) (M:List Int) (hl:¬(um M a).length<k):uc (stD n k d key M) ⟨4,a,0,yq (stD n k d key M) a,0,1,key,0⟩=stE n k d key (um M a):=
 zuf a _ (zqt hd h M) (by omega)
inductive Fo (n k d:Nat) (key:ByteArray) (j:Nat):Tab→Prop where
 | opn (M:List Int) (hl:M.length<k) (ha:∀i:Nat,i<j→(i:Int)∈M) (hm:∀x∈M,0≤x∧x<1000000):Fo n k d key j (stD n k d key M)
 | dne (M:List Int) (hl:M.length=k) (hm:∀x∈M,0≤x∧x<1000000):Fo n k d key j (stE n k d key M)
theorem ztk (hk:1≤k) (hk2:k≤12):Fo n k d key 0 (stD n k d key (zbc k d)):=
 .opn _ (by rw[zg6];unfold zfc;omega) (fun i hi=>by omega) (fun x hx=>by have:=zmh x hx;omega)
theorem fo_step (hd:d<n) (h:a<n) (hn:n≤12) {M:List Int} (hl:M.length<k) (ha:∀i:Nat,i<a→(i:Int)∈M) (hm:∀x∈M,0≤x∧x<1000000):Fo n k d key (a+1) (uc (stD n k d key M) ⟨4,a,0,yq (stD n k d key M) a,0,1,key,0⟩):=by
 have hm':∀x∈um M a,0≤x∧x<1000000:=fun x hx=>by
  rcases(znw M a x).1 hx with h1|rfl
  ·exact hm x h1
  ·omega
 by_cases h1:(um M a).length<k
 ·rw[stD_ack hd h M h1]
  refine .opn _ h1 (fun i hi=>(znw M a i).2 ?_) hm'
  rcases Nat.lt_or_ge i a with h2|h2
  ·exact Or.inl (ha i h2)
  ·exact Or.inr (by omega)
 ·rw[zve hd h M h1]
  exact .dne _ (by have:=zsm M a;omega) hm'
end
end Go.Proofs.YtjfelfjobeeenaaGreat
