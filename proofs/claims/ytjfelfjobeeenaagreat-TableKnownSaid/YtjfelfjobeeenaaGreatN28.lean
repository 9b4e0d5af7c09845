/- Bytes' rows, at its four types: the walks. Conditions: none, or as the theorems say. -/
import Derived.Test.YtjfelfjobeeenaaGreatN21
import Derived.Test.YtjfelfjobeeenaaGreatN22
import Derived.Test.YtjfelfjobeeenaaGreatN27
namespace Go.Proofs.YtjfelfjobeeenaaGreat
set_option maxHeartbeats 200000000
set_option linter.unusedVariables false
set_option linter.unusedSimpArgs false
open Go.RowKit Go.Sf Go.Shelf Go.Maps
theorem Xn {α:Type} (f:α→List Int) (l:List α) (k:Nat) (hk:k<l.length):((l.take k).flatMap f).length+(f l[k]).length≤(l.flatMap f).length:=by
 have h1:=congrArg List.length (jc f l k hk);have h2:((l.take (k+1)).flatMap f).length≤(l.flatMap f).length:=by
  conv=>rhs;rw[←List.take_append_drop (k+1) l]
  rw[List.flatMap_append,List.length_append];omega
 rw[List.length_append] at h1;omega
theorem Zo {w:World} {base n sz:Nat} {e:TypeId} {v:Value} {xs:List Value} (h:w.ownsRow base e sz v n xs):∃p c,v = .slice p n c:=by
 rcases h.2 with ⟨hv,h1⟩|⟨gg,cap,cur,hv,_⟩
 ·exact⟨none,0,by rw[hv,h1]⟩
 ·exact⟨_,cap,hv⟩
def cAt (m:List (Int × yz)) (n:Int):yz:=(zt m n).getD ⟨0,0,false,0⟩
def vAt (m:List (ByteArray × Val)) (s:List UInt8):Val:=(zt m ⟨s.toArray⟩).getD ⟨0,false⟩
def pAt (m:List (ID × xd)) (i:ID):xd:=(zt m i).getD ⟨0,0⟩
def zco (m:List (Int × yz)) (n:Int):List Int:=zc7 (n,cAt m n)
def zev (m:List (ByteArray × Val)) (s:List UInt8):List Int:=zew (⟨s.toArray⟩,vAt m s)
def zbg (m:List (ID × xd)) (i:ID):List Int:=zdn (i,pAt m i)
def zah (m:List (ID × ye)) (i:ID):List Int:=zhv (i,(zt m i).getD ⟨0,[]⟩)
def qe {V:Type} (m:List (ID × V)):List ID:=Qr (m.map (·.1))
def Qd (m:List (Int × yz)):List Int:=e4 m.length++(Yz m).flatMap (zco m)
def Xv (m:List (ByteArray × Val)):List Int:=e4 m.length++(Zx m).flatMap (zev m)
def Vw (m:List (ID × xd)):List Int:=e4 m.length++(qe m).flatMap (zbg m)
def jf (m:List (ID × ye)):List Int:=e4 m.length++(qe m).flatMap (zah m)
theorem ziu {V:Type} {m:List (ID × V)} (hn:(m.map (·.1)).Nodup) {l:List ID} (hp:l.Perm (m.map (·.1))) (ho:zbr l):l=qe m:=
 Qg (zjs ho (hp.nodup_iff.2 hn)) (Yi hn) fun x=>by unfold qe;rw[Vh hn,hp.mem_iff]
theorem zpg {b:Nat} {m:List (Int × yz)} (n:Int):∀W,zw W b (Value.int .i64) qt m→(Instr.lookup 117 (.map (some b)) (.int .i64 n) false).run Tryz.prog W = .ok (.agg #[.int .i64 (cAt m n).zvy,.int .i64 (cAt m n).zvz,.bool (cAt m n).done,.int .i64 (cAt m n).code]) W:=fun W h=>by
 rw[h.lookup Qn Tryz.underlying117 (zn6 W) n false];unfold cAt
 cases zt m n <;> rfl
theorem zsg {b:Nat} {m:List (ByteArray × Val)} (s:List UInt8):∀W,zw W b Value.string Ya m→(Instr.lookup 118 (.map (some b)) (.string ⟨s.toArray⟩) false).run Tryz.prog W = .ok (.agg #[.int .i64 (vAt m s).zvz,.bool (vAt m s).dead]) W:=fun W h=>by
 rw[h.lookup zma Tryz.underlying118 (zqu W) ⟨s.toArray⟩ false];unfold vAt
 cases zt m ⟨s.toArray⟩ <;> rfl
theorem zpj {b:Nat} {m:List (ID × xd)} (i:ID):∀W,zw W b zx xw m→(Instr.lookup 119 (.map (some b)) (.agg #[.string i.key,.int .i64 i.zvz]) false).run Tryz.prog W = .ok (.agg #[.int .i64 (pAt m i).zvw,.int .i64 (pAt m i).zvy]) W:=fun W h=>by
 have h1:=h.lookup zdf Tryz.underlying119 (zh5 W) i false;refine h1.trans ?_;unfold pAt
 cases zt m i <;> rfl
theorem zdt {P:Program} {K V:Type} {ek:K→Value} {ev:V→Value} {t kt et:TypeId} (ht:P.underlying t=some (.map kt et)) {b:Nat} {m:List (K × V)}:∀ty W,zw W b ek ev m→(Builtin.len_ #[t] ty #[.map (some b)]).run P W = .ok (.int .i64 m.length) W:=fun ty W h=>h.len ht ty
section
variable {own : Nat → Prop} {w : World} {wb : Nat} {l : List Int}
set_option maxRecDepth 100000 in
theorem zsd (h:WS own wb l w) (b:Nat) (m:List (Int × yz)) (hm:zw w b (Value.int .i64) qt m) (ho:own b) (hr:∀p∈m,(Lit.int .i64 p.1).wf=true) (hl:m.length≤1000000) (hlen:(l++Qd m).length≤70000) :
  Calls Tryz.prog 84 #[.pointer (some ⟨wb,0,none⟩),.map (some b),.func (.func 85) #[] #[],(.func (.func 86) #[] #[.pointer (some ⟨wb,0,none⟩)])] w (jm own wb (l++Qd m) w):=by
 have HE:Hid (l++e4 m.length++(Yz m).flatMap (zco m)=l++Qd m):=(show _=_ from by unfold Qd;rw[List.append_assoc])
 have HLT:Hid (l.length+4+((Yz m).flatMap (zco m)).length≤70000):=(show _≤_ from by unfold Qd at hlen;simp only[List.length_append,Vz] at hlen;omega)
 have HM:=za hm;have HO:=za ho;have HL:=za hl;have HR:=za hr;have HW0:=za h;have hmm:=hm;have hlenm:=zdt (P:=Tryz.prog) (t:=117) (b:=b) (m:=m) (ek:=(Value.int .i64)) (ev:=qt) Tryz.underlying117;have hwl:=h.wlt;have hbl:=hm.lt;have HWD:Hid (∀w',w.grownBy w' none→Calls Tryz.prog 152 #[.pointer (some ⟨wb,0,none⟩),.int .u32 ((m.length:Int)%4294967296)] w' (jm own wb (l++e4 m.length) w')):=(show ∀_,_→Calls _ _ _ _ _ from fun w' hg=>(HW0.out.keep hg).wordZ (by have:=HLT.out;omega) m.length)
 clear h hm ho hl hlen hr
 go_enter Tryz.func84,Tryz.ntmps84
 go_upto_region 0 with fail
 go_still_tail 6,(by kernel_rfl)
 go_upto_region 1 with (go_at_call 152;refine(HWD.out _ (zf (zd _))).mono ?_;rintro e w2 ⟨rfl,hq,ht⟩;have HQ2:=za hq;have HT2:=za (xy (zf (zd _)) ht);clear hq ht)
 clear HWD hmm hlenm;have HM2:Hid (zw w2 b (Value.int .i64) qt m):=(show zw _ _ _ _ _ from HM.out.same (Zk HT2.out hbl HO.out))
 have HG3:=za (zc w2 (.cells #[.map (some b)] 117) none);have hs3:(w2.alloc (.cells #[.map (some b)] 117)).heap.size=w2.heap.size.succ:=by simp
 have HSO:Hid (Calls Tryz.prog 153 #[.func (.func 184) #[] #[.pointer (some ⟨w2.heap.size,0,none⟩)],.func (.func 85) #[] #[]] (w2.alloc (.cells #[.map (some b)] 117)) fun e w'=>∃v,e = .returned v∧w'.ownsRow w2.heap.size.succ 3 1 v (Yz m).length ((Yz m).map (Value.int .i64))∧(w2.alloc (.cells #[.map (some b)] 117)).grownBy w' none):=(show Calls _ _ _ _ _ from by
  have:=znv (w:=w2.alloc (.cells #[.map (some b)] 117)) w2.heap.size b m (by simp) (by simp[go_sem]) (HM2.out.kept HG3.out (by simp)) HR.out HL.out
  rw[hs3] at this
  exact this)
 have hkl:(Yz m).length≤1000000:=by
  have h1:=HL.out;unfold Yz;rw[List.length_mergeSort,List.length_map];exact h1
 generalize Yz m=ks at *
 go_upto_block 0 with (first
  | (go_at_call 154;refine(zre (some b) _).mono ?_;rintro e w3 ⟨rfl,rfl⟩)
  | (go_at_call 153;refine HSO.out.mono ?_;rintro e w4 ⟨v,rfl,hv,hg⟩;obtain⟨p4,c4,rfl⟩:=Zo hv;have HV:=za hv;have HG5:=za hg;clear hv hg))
 have HG4:=za (ze HG3.out HG5.out);have HQ4:=za (HQ2.out.keep HG4.out);have HT4:=za (HT2.out.trans (xy HG4.out (yc.refl _ w4)));clear HSO
 rcases Nat.eq_zero_or_pos ks.length with h0|h0
 ·have HKN:Hid (ks = []):=(show _=_ from List.eq_nil_of_length_eq_zero h0)
  clear HV;go_wp2
  go_loopw [22] (fun x wr=>x = .int .i64 0∧wr=w4) (fun _ _=>0)
  case atStart=>exact⟨rfl,rfl⟩
  case round=>
   obtain⟨rfl,rfl⟩:=hrel;go_wp2
   first|go_end0|refine bodyPost_ret (results_none rfl _ _ _) rfl ?_
   rw[←HE.out,HKN.out,List.flatMap_nil,List.append_nil]
   exact⟨rfl,HQ4.out,HT4.out⟩
 ·obtain⟨g,cap,hvf⟩:=Xr HV.out h0
  injection hvf with hv1 hv2 hv3
  subst hv1 hv3;have hr4:=HV.out;have hgl:=hr4.lt g rfl;have HQ5:Hid (WS (fun k=>own k∨k=g) wb (l++e4 m.length) w4):=(show WS _ _ _ _ from (HQ2.out.keep HG3.out).fresh HG5.out g (by rw[hs3];exact hgl.1) hgl.2)
  have hce:∀k,(hk:k<ks.length)→w4.cell? ⟨g,k,none⟩=some (.int .i64 ks[k]):=fun k hk=>by
   rw[World.ownsRow.cellAt hr4 k (by omega),List.getElem?_map,List.getElem?_eq_getElem hk];rfl
  have HCE:=za hce;have HGL:Hid (g<w4.heap.size):=(show _<_ from hgl.2)
  have HBL4:Hid (b<w4.heap.size):=(show _<_ from Nat.lt_of_lt_of_le HM2.out.lt HG4.out.size)
  have HM4:Hid (zw w4 b (Value.int .i64) qt m):=(show zw _ _ _ _ _ from HM2.out.kept HG4.out (by simp))
  clear hr4 hgl hce;go_wp2
  go_loopw [22] (fun x wr=>∃k:Nat,k≤ks.length∧x = .int .i64 k∧WS (fun k=>own k∨k=g) wb (l++e4 m.length++(ks.take k).flatMap (zco m)) wr∧yc (fun k_1=>¬(own k_1∨k_1=g)) w4 wr) (fun x _=>ks.length-(intOf x).toNat)
  case atStart=>exact⟨0,Nat.zero_le _,rfl,by simpa using HQ5.out,yc.refl _ _⟩
  case round=>
   obtain⟨k,hk,rfl,hws,htu⟩:=hrel;have HW:=za hws;have HTU:=za htu
   by_cases hlt:k<ks.length
   ·have HN:=za (jc (zco m) ks k hlt)
    have HLK:Hid ((l++e4 m.length++(ks.take k).flatMap (zco m)).length+(zco m ks[k]).length≤70000):=(show _≤_ from by
     have h1:=HLT.out;have h2:=Xn (zco m) ks k hlt;rw[List.length_append,List.length_append,Vz];omega)
    have hmr:zw wr b (Value.int .i64) qt m:=HM4.out.same (Zk htu HBL4.out (Or.inl HO.out));have hgw:g<wr.heap.size:=Nat.lt_of_lt_of_le HGL.out htu.size;have ck:wr.cell? ⟨g,k,none⟩=some (.int .i64 ks[k]):=(World.cell?_of_block (a:=⟨g,k,none⟩) (Zk htu HGL.out (Or.inr rfl))).trans (HCE.out k hlt);have hrun:=zpg (b:=b) (m:=m) ks[k];have hwl:=hws.wlt;have HCB:Hid (Calls Tryz.prog 86 #[.int .i64 ks[k],.agg #[.int .i64 (cAt m ks[k]).zvy,.int .i64 (cAt m ks[k]).zvz,.bool (cAt m ks[k]).done,.int .i64 (cAt m ks[k]).code],.pointer (some ⟨wb,0,none⟩)] wr (jm (fun k=>own k∨k=g) wb (l++e4 m.length++(ks.take k).flatMap (zco m)++zco m ks[k]) wr)):=(show Calls _ _ _ _ _ from by1_any HW.out ks[k] (cAt m ks[k]) (by have:=HLK.out;omega))
    clear hws htu;generalize (cAt m ks[k]).zvy=q1 at *;generalize (cAt m ks[k]).zvz=q2 at *;generalize (cAt m ks[k]).done=q3 at *;generalize (cAt m ks[k]).code=q4 at *;generalize zco m ks[k]=q5 at *;generalize ks[k]=z at *
    go_wp2_with (go_at_call 86;refine HCB.out.mono ?_;rintro e w5 ⟨rfl,hq,ht⟩;have HQ6:=za hq;have HT6:=za (HTU.out.trans ht);clear hq ht)
    go_roundw
    case rel=>exact⟨k+1,by omega,by go_num,by rw[HN.out,←List.append_assoc];exact HQ6.out,HT6.out⟩
    case measure=>simp[intOf];omega
   ·obtain rfl:k=ks.length:=by omega
    clear hws htu;go_wp2
    first|go_end0|refine bodyPost_ret (results_none rfl _ _ _) rfl ?_
    rw[←HE.out];rw[List.take_length] at HW;have h1:=Qj (zd w4) HW.out HTU.out
    exact⟨rfl,h1.2.1,HT4.out.trans h1.2.2⟩
set_option maxRecDepth 100000 in
theorem zsf (h:WS own wb l w) (b:Nat) (m:List (ByteArray × Val)) (hm:zw w b Value.string Ya m) (ho:own b) (hr:∀p∈m,p.1.size≤maxLen) (hl:m.length≤1000000) (hlen:(l++Xv m).length≤70000) :
  Calls Tryz.prog 88 #[.pointer (some ⟨wb,0,none⟩),.map (some b),.func (.func 89) #[] #[],(.func (.func 90) #[] #[.pointer (some ⟨wb,0,none⟩)])] w (jm own wb (l++Xv m) w):=by
 have HE:Hid (l++e4 m.length++(Zx m).flatMap (zev m)=l++Xv m):=(show _=_ from by unfold Xv;rw[List.append_assoc])
 have HLT:Hid (l.length+4+((Zx m).flatMap (zev m)).length≤70000):=(show _≤_ from by unfold Xv at hlen;simp only[List.length_append,Vz] at hlen;omega)
 have HM:=za hm;have HO:=za ho;have HL:=za hl;have HR:=za hr;have HW0:=za h;have hmm:=hm;have hlenm:=zdt (P:=Tryz.prog) (t:=118) (b:=b) (m:=m) (ek:=Value.string) (ev:=Ya) Tryz.underlying118;have hwl:=h.wlt;have hbl:=hm.lt;have HWD:Hid (∀w',w.grownBy w' none→Calls Tryz.prog 152 #[.pointer (some ⟨wb,0,none⟩),.int .u32 ((m.length:Int)%4294967296)] w' (jm own wb (l++e4 m.length) w')):=(show ∀_,_→Calls _ _ _ _ _ from fun w' hg=>(HW0.out.keep hg).wordZ (by have:=HLT.out;omega) m.length)
 clear h hm ho hl hlen hr
 go_enter Tryz.func88,Tryz.ntmps88
 go_upto_region 0 with fail
 go_still_tail 6,(by kernel_rfl)
 go_upto_region 1 with (go_at_call 152;refine(HWD.out _ (zf (zd _))).mono ?_;rintro e w2 ⟨rfl,hq,ht⟩;have HQ2:=za hq;have HT2:=za (xy (zf (zd _)) ht);clear hq ht)
 clear HWD hmm hlenm;have HM2:Hid (zw w2 b Value.string Ya m):=(show zw _ _ _ _ _ from HM.out.same (Zk HT2.out hbl HO.out))
 have HG3:=za (zc w2 (.cells #[.map (some b)] 118) none);have hs3:(w2.alloc (.cells #[.map (some b)] 118)).heap.size=w2.heap.size.succ:=by simp
 have HSO:Hid (Calls Tryz.prog 156 #[.func (.func 162) #[] #[.pointer (some ⟨w2.heap.size,0,none⟩)],.func (.func 89) #[] #[]] (w2.alloc (.cells #[.map (some b)] 118)) fun e w'=>∃v,e = .returned v∧w'.ownsRow w2.heap.size.succ 9 1 v (Zx m).length ((Zx m).map encStr)∧(w2.alloc (.cells #[.map (some b)] 118)).grownBy w' none):=(show Calls _ _ _ _ _ from by
  have:=znt (w:=w2.alloc (.cells #[.map (some b)] 118)) w2.heap.size b m (by simp) (by simp[go_sem]) (HM2.out.kept HG3.out (by simp)) HR.out HL.out
  rw[hs3] at this
  exact this)
 have hkl:(Zx m).length≤1000000:=by
  have h1:=HL.out;unfold Zx;rw[List.length_mergeSort,List.length_map];exact h1
 generalize Zx m=ks at *
 go_upto_block 0 with (first
  | (go_at_call 102;refine(zef (some b) _).mono ?_;rintro e w3 ⟨rfl,rfl⟩)
  | (go_at_call 156;refine HSO.out.mono ?_;rintro e w4 ⟨v,rfl,hv,hg⟩;obtain⟨p4,c4,rfl⟩:=Zo hv;have HV:=za hv;have HG5:=za hg;clear hv hg))
 have HG4:=za (ze HG3.out HG5.out);have HQ4:=za (HQ2.out.keep HG4.out);have HT4:=za (HT2.out.trans (xy HG4.out (yc.refl _ w4)));clear HSO
 rcases Nat.eq_zero_or_pos ks.length with h0|h0
 ·have HKN:Hid (ks = []):=(show _=_ from List.eq_nil_of_length_eq_zero h0)
  clear HV;go_wp2
  go_loopw [22] (fun x wr=>x = .int .i64 0∧wr=w4) (fun _ _=>0)
  case atStart=>exact⟨rfl,rfl⟩
  case round=>
   obtain⟨rfl,rfl⟩:=hrel;go_wp2
   first|go_end0|refine bodyPost_ret (results_none rfl _ _ _) rfl ?_
   rw[←HE.out,HKN.out,List.flatMap_nil,List.append_nil]
   exact⟨rfl,HQ4.out,HT4.out⟩
 ·obtain⟨g,cap,hvf⟩:=Xr HV.out h0
  injection hvf with hv1 hv2 hv3
  subst hv1 hv3;have hr4:=HV.out;have hgl:=hr4.lt g rfl;have HQ5:Hid (WS (fun k=>own k∨k=g) wb (l++e4 m.length) w4):=(show WS _ _ _ _ from (HQ2.out.keep HG3.out).fresh HG5.out g (by rw[hs3];exact hgl.1) hgl.2)
  have hce:∀k,(hk:k<ks.length)→w4.cell? ⟨g,k,none⟩=some (.string ⟨ks[k].toArray⟩):=fun k hk=>by
   rw[World.ownsRow.cellAt hr4 k (by omega),List.getElem?_map,List.getElem?_eq_getElem hk];rfl
  have HCE:=za hce;have HGL:Hid (g<w4.heap.size):=(show _<_ from hgl.2)
  have HBL4:Hid (b<w4.heap.size):=(show _<_ from Nat.lt_of_lt_of_le HM2.out.lt HG4.out.size)
  have HM4:Hid (zw w4 b Value.string Ya m):=(show zw _ _ _ _ _ from HM2.out.kept HG4.out (by simp))
  clear hr4 hgl hce;go_wp2
  go_loopw [22] (fun x wr=>∃k:Nat,k≤ks.length∧x = .int .i64 k∧WS (fun k=>own k∨k=g) wb (l++e4 m.length++(ks.take k).flatMap (zev m)) wr∧yc (fun k_1=>¬(own k_1∨k_1=g)) w4 wr) (fun x _=>ks.length-(intOf x).toNat)
  case atStart=>exact⟨0,Nat.zero_le _,rfl,by simpa using HQ5.out,yc.refl _ _⟩
  case round=>
   obtain⟨k,hk,rfl,hws,htu⟩:=hrel;have HW:=za hws;have HTU:=za htu
   by_cases hlt:k<ks.length
   ·have HN:=za (jc (zev m) ks k hlt)
    have HLK:Hid ((l++e4 m.length++(ks.take k).flatMap (zev m)).length+(zev m ks[k]).length≤70000):=(show _≤_ from by
     have h1:=HLT.out;have h2:=Xn (zev m) ks k hlt;rw[List.length_append,List.length_append,Vz];omega)
    have hmr:zw wr b Value.string Ya m:=HM4.out.same (Zk htu HBL4.out (Or.inl HO.out));have hgw:g<wr.heap.size:=Nat.lt_of_lt_of_le HGL.out htu.size;have ck:wr.cell? ⟨g,k,none⟩=some (.string ⟨ks[k].toArray⟩):=(World.cell?_of_block (a:=⟨g,k,none⟩) (Zk htu HGL.out (Or.inr rfl))).trans (HCE.out k hlt);have hrun:=zsg (b:=b) (m:=m) ks[k];have hwl:=hws.wlt;have HCB:Hid (Calls Tryz.prog 90 #[.string ⟨ks[k].toArray⟩,.agg #[.int .i64 (vAt m ks[k]).zvz,.bool (vAt m ks[k]).dead],.pointer (some ⟨wb,0,none⟩)] wr (jm (fun k=>own k∨k=g) wb (l++e4 m.length++(ks.take k).flatMap (zev m)++zev m ks[k]) wr)):=(show Calls _ _ _ _ _ from by2_any HW.out ⟨ks[k].toArray⟩ (vAt m ks[k]) (by have:=HLK.out;have h2:(zev m ks[k]).length=(⟨ks[k].toArray⟩:ByteArray).size+10:=zn1 _;omega))
    clear hws htu;generalize (vAt m ks[k]).zvz=q1 at *;generalize (vAt m ks[k]).dead=q2 at *;generalize zev m ks[k]=q5 at *;generalize ks[k]=z at *
    go_wp2_with (go_at_call 90;refine HCB.out.mono ?_;rintro e w5 ⟨rfl,hq,ht⟩;have HQ6:=za hq;have HT6:=za (HTU.out.trans ht);clear hq ht)
    go_roundw
    case rel=>exact⟨k+1,by omega,by go_num,by rw[HN.out,←List.append_assoc];exact HQ6.out,HT6.out⟩
    case measure=>simp[intOf];omega
   ·obtain rfl:k=ks.length:=by omega
    clear hws htu;go_wp2
    first|go_end0|refine bodyPost_ret (results_none rfl _ _ _) rfl ?_
    rw[←HE.out];rw[List.take_length] at HW;have h1:=Qj (zd w4) HW.out HTU.out
    exact⟨rfl,h1.2.1,HT4.out.trans h1.2.2⟩
set_option maxRecDepth 100000 in
theorem zse (h:WS own wb l w) (b:Nat) (m:List (ID × xd)) (hm:zw w b zx xw m) (ho:own b) (hl:m.length≤1000000) (hlen:(l++Vw m).length≤70000) :
  Calls Tryz.prog 92 #[.pointer (some ⟨wb,0,none⟩),.map (some b),.func (.func 80) #[] #[],(.func (.func 93) #[] #[.pointer (some ⟨wb,0,none⟩)])] w (jm own wb (l++Vw m) w):=by
 have HE:Hid (l++e4 m.length++(qe m).flatMap (zbg m)=l++Vw m):=(show _=_ from by unfold Vw;rw[List.append_assoc])
 have HLT:Hid (l.length+4+((qe m).flatMap (zbg m)).length≤70000):=(show _≤_ from by unfold Vw at hlen;simp only[List.length_append,Vz] at hlen;omega)
 have HM:=za hm;have HO:=za ho;have HL:=za hl;have HW0:=za h;have hmm:=hm;have hlenm:=zdt (P:=Tryz.prog) (t:=119) (b:=b) (m:=m) (ek:=zx) (ev:=xw) Tryz.underlying119;have hwl:=h.wlt;have hbl:=hm.lt;have HWD:Hid (∀w',w.grownBy w' none→Calls Tryz.prog 152 #[.pointer (some ⟨wb,0,none⟩),.int .u32 ((m.length:Int)%4294967296)] w' (jm own wb (l++e4 m.length) w')):=(show ∀_,_→Calls _ _ _ _ _ from fun w' hg=>(HW0.out.keep hg).wordZ (by have:=HLT.out;omega) m.length)
 clear h hm ho hl hlen
 go_enter Tryz.func92,Tryz.ntmps92
 go_upto_region 0 with fail
 go_still_tail 6,(by kernel_rfl)
 go_upto_region 1 with (go_at_call 152;refine(HWD.out _ (zf (zd _))).mono ?_;rintro e w2 ⟨rfl,hq,ht⟩;have HQ2:=za hq;have HT2:=za (xy (zf (zd _)) ht);clear hq ht)
 clear HWD hmm hlenm;have HM2:Hid (zw w2 b zx xw m):=(show zw _ _ _ _ _ from HM.out.same (Zk HT2.out hbl HO.out))
 have HG3:=za (zc w2 (.cells #[.map (some b)] 119) none);have hs3:(w2.alloc (.cells #[.map (some b)] 119)).heap.size=w2.heap.size.succ:=by simp
 have HSO:Hid (Calls Tryz.prog 78 #[.func (.func 142) #[] #[.pointer (some ⟨w2.heap.size,0,none⟩)],.func (.func 80) #[] #[]] (w2.alloc (.cells #[.map (some b)] 119)) fun e w'=>∃v,e = .returned v∧jl w2.heap.size.succ w' v (qe m)∧(w2.alloc (.cells #[.map (some b)] 119)).grownBy w' none):=(show Calls _ _ _ _ _ from by
  have:=zfs w2.heap.size b m (w2.alloc (.cells #[.map (some b)] 119)) (by simp) (by simp[go_sem]) (HM2.out.kept HG3.out (by simp)) HL.out
  rw[hs3] at this;refine this.mono ?_;rintro e w' ⟨v,ks,h1,⟨h2,h3,h4,_⟩,h5⟩;have h6:=ziu HM2.out.nodup h3 h4;subst h6
  exact⟨v,h1,h2,h5⟩)
 have hkl:(qe m).length≤1000000:=by
  have h1:=HL.out;unfold qe;rw[zbw,List.length_map];exact h1
 generalize qe m=ks at *
 go_upto_block 0 with (first
  | (go_at_call 79;refine(ziw (some b) _).mono ?_;rintro e w3 ⟨rfl,rfl⟩)
  | (go_at_call 78;refine HSO.out.mono ?_;rintro e w4 ⟨v,rfl,hv,hg⟩;obtain⟨p4,c4,rfl⟩:=Zo hv;have HV:=za hv;have HG5:=za hg;clear hv hg))
 have HG4:=za (ze HG3.out HG5.out);have HQ4:=za (HQ2.out.keep HG4.out);have HT4:=za (HT2.out.trans (xy HG4.out (yc.refl _ w4)));clear HSO
 rcases Nat.eq_zero_or_pos ks.length with h0|h0
 ·have HKN:Hid (ks = []):=(show _=_ from List.eq_nil_of_length_eq_zero h0)
  clear HV;go_wp2
  go_loopw [22] (fun x wr=>x = .int .i64 0∧wr=w4) (fun _ _=>0)
  case atStart=>exact⟨rfl,rfl⟩
  case round=>
   obtain⟨rfl,rfl⟩:=hrel;go_wp2
   first|go_end0|refine bodyPost_ret (results_none rfl _ _ _) rfl ?_
   rw[←HE.out,HKN.out,List.flatMap_nil,List.append_nil]
   exact⟨rfl,HQ4.out,HT4.out⟩
 ·obtain⟨g,cap,hvf⟩:=Xr HV.out h0
  injection hvf with hv1 hv2 hv3
  subst hv1 hv3;have hr4:=HV.out;have hgl:=hr4.lt g rfl;have HQ5:Hid (WS (fun k=>own k∨k=g) wb (l++e4 m.length) w4):=(show WS _ _ _ _ from (HQ2.out.keep HG3.out).fresh HG5.out g (by rw[hs3];exact hgl.1) hgl.2)
  have hsr:uu w4 54 2 ya (.slice (some ⟨g,0,none⟩) ks.length c4) ks:=Vv hr4 (Nat.zero_le _);have hce:∀k,(hk:k<ks.length)→w4.cell? ⟨g,k*2,none⟩=some (.string ks[k].key)∧w4.cell? ⟨g,k*2+1,none⟩=some (.int .i64 ks[k].zvz):=fun k hk=>by
   rcases hsr.at jq with e0|⟨g2,c2,e,hc,-⟩
   ·rw[e0] at hk;simp at hk
   ·injection e with e1 _ _
    cases e1
    exact⟨hc k hk 0 _ rfl,hc k hk 1 _ rfl⟩
  clear hsr;have HCE:=za hce;have HGL:Hid (g<w4.heap.size):=(show _<_ from hgl.2)
  have HBL4:Hid (b<w4.heap.size):=(show _<_ from Nat.lt_of_lt_of_le HM2.out.lt HG4.out.size)
  have HM4:Hid (zw w4 b zx xw m):=(show zw _ _ _ _ _ from HM2.out.kept HG4.out (by simp))
  clear hr4 hgl hce;go_wp2
  go_loopw [22] (fun x wr=>∃k:Nat,k≤ks.length∧x = .int .i64 k∧WS (fun k=>own k∨k=g) wb (l++e4 m.length++(ks.take k).flatMap (zbg m)) wr∧yc (fun k_1=>¬(own k_1∨k_1=g)) w4 wr) (fun x _=>ks.length-(intOf x).toNat)
  case atStart=>exact⟨0,Nat.zero_le _,rfl,by simpa using HQ5.out,yc.refl _ _⟩
  case round=>
   obtain⟨k,hk,rfl,hws,htu⟩:=hrel;have HW:=za hws;have HTU:=za htu
   by_cases hlt:k<ks.length
   ·have HN:=za (jc (zbg m) ks k hlt)
    have HLK:Hid ((l++e4 m.length++(ks.take k).flatMap (zbg m)).length+(zbg m ks[k]).length≤70000):=(show _≤_ from by
     have h1:=HLT.out;have h2:=Xn (zbg m) ks k hlt;rw[List.length_append,List.length_append,Vz];omega)
    have hmr:zw wr b zx xw m:=HM4.out.same (Zk htu HBL4.out (Or.inl HO.out));have hgw:g<wr.heap.size:=Nat.lt_of_lt_of_le HGL.out htu.size;have ck:=(World.cell?_of_block (a:=⟨g,k*2,none⟩) (Zk htu HGL.out (Or.inr rfl))).trans (HCE.out k hlt).1;have ck1:=(World.cell?_of_block (a:=⟨g,k*2+1,none⟩) (Zk htu HGL.out (Or.inr rfl))).trans (HCE.out k hlt).2;have hwl:=hws.wlt;have hrun:=zpj (b:=b) (m:=m) ks[k];have hl1:(l++e4 m.length++(ks.take k).flatMap (zbg m)).length+ks[k].key.size≤80000:=by have:=HLK.out;have h2:(zbg m ks[k]).length=ks[k].key.size+19:=zja _;omega
    have HCB:Hid (∀w',wr.grownBy w' none→Calls Tryz.prog 93 #[.agg #[.string ks[k].key,.int .i64 ks[k].zvz],.agg #[.int .i64 (pAt m ks[k]).zvw,.int .i64 (pAt m ks[k]).zvy],.pointer (some ⟨wb,0,none⟩)] w' (jm (fun k=>own k∨k=g) wb (l++e4 m.length++(ks.take k).flatMap (zbg m)++zbg m ks[k]) w')):=(show ∀_,_→Calls _ _ _ _ _ from fun w' hg=>by3_any (HW.out.keep hg) ks[k] (pAt m ks[k]) hl1)
    clear hws htu hl1;generalize (pAt m ks[k]).zvw=q1 at *;generalize (pAt m ks[k]).zvy=q2 at *;generalize zbg m ks[k]=q5 at *;generalize ks[k]=z at *
    go_upto_region 4 with fail
    have hga:=zc wr (.cells #[.string z.key,.int .i64 z.zvz] 54) none;have hba:=heap_alloc_new wr (.cells #[.string z.key,.int .i64 z.zvz] 54);have hma:=hmr.kept hga (by simp)
    have HGA:=za hga;generalize wr.alloc (.cells #[.string z.key,.int .i64 z.zvz] 54)=wa at *;have k0:wa.cell? ⟨wr.heap.size,0,none⟩=some (.string z.key):=(zh hba 0).trans rfl;have k1:wa.cell? ⟨wr.heap.size,1,none⟩=some (.int .i64 z.zvz):=(zh hba 1).trans rfl;have hka:=yo k0;have hbl5:=hma.lt;clear hga hba ck ck1 hmr
    go_still_tail 5,(by kernel_rfl)
    go_wp2_with (go_at_call 93;refine(HCB.out _ (zf HGA.out)).mono ?_;rintro e w5 ⟨rfl,hq,ht⟩;have HQ6:=za hq;have HT6:=za (HTU.out.trans (xy (zf HGA.out) ht));clear hq ht)
    go_roundw
    case rel=>exact⟨k+1,by omega,by go_num,by rw[HN.out,←List.append_assoc];exact HQ6.out,HT6.out⟩
    case measure=>simp[intOf];omega
   ·obtain rfl:k=ks.length:=by omega
    clear hws htu;go_wp2
    first|go_end0|refine bodyPost_ret (results_none rfl _ _ _) rfl ?_
    rw[←HE.out];rw[List.take_length] at HW;have h1:=Qj (zd w4) HW.out HTU.out
    exact⟨rfl,h1.2.1,HT4.out.trans h1.2.2⟩
set_option maxRecDepth 100000 in
theorem zjh (h:WS own wb l w) (b:Nat) (m:List (ID × ye)) (hm:zw w b zx yw m) (ho:own b) (hset:∀p∈m,qr w p.2∧own p.2.blk∧Xw p.2.mem) (hl:m.length≤1000000) (hlen:(l++jf m).length≤70000) :
  Calls Tryz.prog 94 #[.pointer (some ⟨wb,0,none⟩),.map (some b),.func (.func 80) #[] #[],(.func (.func 95) #[.pointer (some ⟨wb,0,none⟩)] #[])] w (jm own wb (l++jf m) w):=by
 have HE:Hid (l++e4 m.length++(qe m).flatMap (zah m)=l++jf m):=(show _=_ from by unfold jf;rw[List.append_assoc])
 have HLT:Hid (l.length+4+((qe m).flatMap (zah m)).length≤70000):=(show _≤_ from by unfold jf at hlen;simp only[List.length_append,Vz] at hlen;omega)
 have HM:=za hm;have HO:=za ho;have HL:=za hl;have HSE:=za hset;have HW0:=za h;have hmm:=hm;have hlenm:=zdt (P:=Tryz.prog) (t:=120) (b:=b) (m:=m) (ek:=zx) (ev:=yw) Tryz.underlying120;have hwl:=h.wlt;have hbl:=hm.lt;have HWD:Hid (∀w',w.grownBy w' none→Calls Tryz.prog 152 #[.pointer (some ⟨wb,0,none⟩),.int .u32 ((m.length:Int)%4294967296)] w' (jm own wb (l++e4 m.length) w')):=(show ∀_,_→Calls _ _ _ _ _ from fun w' hg=>(HW0.out.keep hg).wordZ (by have:=HLT.out;omega) m.length)
 clear h hm ho hl hlen hset
 go_enter Tryz.func94,Tryz.ntmps94
 go_upto_region 0 with fail
 go_still_tail 6,(by kernel_rfl)
 go_upto_region 1 with (go_at_call 152;refine(HWD.out _ (zf (zd _))).mono ?_;rintro e w2 ⟨rfl,hq,ht⟩;have HQ2:=za hq;have HT2:=za (xy (zf (zd _)) ht);clear hq ht)
 clear HWD hmm hlenm;have HM2:Hid (zw w2 b zx yw m):=(show zw _ _ _ _ _ from HM.out.same (Zk HT2.out hbl HO.out))
 have HG3:=za (zc w2 (.cells #[.map (some b)] 120) none);have hs3:(w2.alloc (.cells #[.map (some b)] 120)).heap.size=w2.heap.size.succ:=by simp
 have HSO:Hid (Calls Tryz.prog 78 #[.func (.func 186) #[] #[.pointer (some ⟨w2.heap.size,0,none⟩)],.func (.func 80) #[] #[]] (w2.alloc (.cells #[.map (some b)] 120)) fun e w'=>∃v,e = .returned v∧jl w2.heap.size.succ w' v (qe m)∧(w2.alloc (.cells #[.map (some b)] 120)).grownBy w' none):=(show Calls _ _ _ _ _ from by
  have:=zla w2.heap.size b m (w2.alloc (.cells #[.map (some b)] 120)) (by simp) (by simp[go_sem]) (HM2.out.kept HG3.out (by simp)) HL.out
  rw[hs3] at this;refine this.mono ?_;rintro e w' ⟨v,ks,h1,⟨h2,h3,h4,_⟩,h5⟩;have h6:=ziu HM2.out.nodup h3 h4;subst h6
  exact⟨v,h1,h2,h5⟩)
 have hkl:(qe m).length≤1000000:=by
  have h1:=HL.out;unfold qe;rw[zbw,List.length_map];exact h1
 have hkm:∀x∈qe m,∃s,zt m x=some s:=fun x hx=>by
  unfold qe at hx;rw[Vh HM2.out.nodup] at hx;obtain⟨p,hp,rfl⟩:=List.mem_map.1 hx
  exact⟨p.2,vo HM2.out.nodup hp⟩
 have HKM:=za hkm;clear hkm;generalize qe m=ks at *
 go_upto_block 0 with (first
  | (go_at_call 158;refine(zow (some b) _).mono ?_;rintro e w3 ⟨rfl,rfl⟩)
  | (go_at_call 78;refine HSO.out.mono ?_;rintro e w4 ⟨v,rfl,hv,hg⟩;obtain⟨p4,c4,rfl⟩:=Zo hv;have HV:=za hv;have HG5:=za hg;clear hv hg))
 have HG4:=za (ze HG3.out HG5.out);have HQ4:=za (HQ2.out.keep HG4.out);have HT4:=za (HT2.out.trans (xy HG4.out (yc.refl _ w4)));clear HSO
 rcases Nat.eq_zero_or_pos ks.length with h0|h0
 ·have HKN:Hid (ks = []):=(show _=_ from List.eq_nil_of_length_eq_zero h0)
  clear HV;go_wp2
  go_loopw [22] (fun x wr=>x = .int .i64 0∧wr=w4) (fun _ _=>0)
  case atStart=>exact⟨rfl,rfl⟩
  case round=>
   obtain⟨rfl,rfl⟩:=hrel;go_wp2
   first|go_end0|refine bodyPost_ret (results_none rfl _ _ _) rfl ?_
   rw[←HE.out,HKN.out,List.flatMap_nil,List.append_nil]
   exact⟨rfl,HQ4.out,HT4.out⟩
 ·obtain⟨g,cap,hvf⟩:=Xr HV.out h0
  injection hvf with hv1 hv2 hv3
  subst hv1 hv3;have hr4:=HV.out;have hgl:=hr4.lt g rfl;have HQ5:Hid (WS (fun k=>own k∨k=g) wb (l++e4 m.length) w4):=(show WS _ _ _ _ from (HQ2.out.keep HG3.out).fresh HG5.out g (by rw[hs3];exact hgl.1) hgl.2)
  have hsr:uu w4 54 2 ya (.slice (some ⟨g,0,none⟩) ks.length c4) ks:=Vv hr4 (Nat.zero_le _);have hce:∀k,(hk:k<ks.length)→w4.cell? ⟨g,k*2,none⟩=some (.string ks[k].key)∧w4.cell? ⟨g,k*2+1,none⟩=some (.int .i64 ks[k].zvz):=fun k hk=>by
   rcases hsr.at jq with e0|⟨g2,c2,e,hc,-⟩
   ·rw[e0] at hk;simp at hk
   ·injection e with e1 _ _
    cases e1
    exact⟨hc k hk 0 _ rfl,hc k hk 1 _ rfl⟩
  clear hsr;have HCE:=za hce;have HGL:Hid (g<w4.heap.size):=(show _<_ from hgl.2)
  have HBL4:Hid (b<w4.heap.size):=(show _<_ from Nat.lt_of_lt_of_le HM2.out.lt HG4.out.size)
  have HM4:Hid (zw w4 b zx yw m):=(show zw _ _ _ _ _ from HM2.out.kept HG4.out (by simp))
  have hse4:∀p∈m,qr w4 p.2∧own p.2.blk∧Xw p.2.mem:=fun p hp=>by
   obtain⟨h1,h2,h3⟩:=HSE.out p hp
   exact⟨zw.kept (zw.same h1 (Zk HT2.out (zw.lt h1) h2)) HG4.out (by simp),h2,h3⟩
  have HSE4:=za hse4;clear hse4;clear hr4 hgl hce;go_wp2
  go_loopw [22] (fun x wr=>∃k:Nat,k≤ks.length∧x = .int .i64 k∧WS (fun k=>own k∨k=g) wb (l++e4 m.length++(ks.take k).flatMap (zah m)) wr∧yc (fun k_1=>¬(own k_1∨k_1=g)) w4 wr) (fun x _=>ks.length-(intOf x).toNat)
  case atStart=>exact⟨0,Nat.zero_le _,rfl,by simpa using HQ5.out,yc.refl _ _⟩
  case round=>
   obtain⟨k,hk,rfl,hws,htu⟩:=hrel;have HW:=za hws;have HTU:=za htu
   by_cases hlt:k<ks.length
   ·have HN:=za (jc (zah m) ks k hlt)
    have HLK:Hid ((l++e4 m.length++(ks.take k).flatMap (zah m)).length+(zah m ks[k]).length≤70000):=(show _≤_ from by
     have h1:=HLT.out;have h2:=Xn (zah m) ks k hlt;rw[List.length_append,List.length_append,Vz];omega)
    have hmr:zw wr b zx yw m:=HM4.out.same (Zk htu HBL4.out (Or.inl HO.out));have hgw:g<wr.heap.size:=Nat.lt_of_lt_of_le HGL.out htu.size;have ck:=(World.cell?_of_block (a:=⟨g,k*2,none⟩) (Zk htu HGL.out (Or.inr rfl))).trans (HCE.out k hlt).1;have ck1:=(World.cell?_of_block (a:=⟨g,k*2+1,none⟩) (Zk htu HGL.out (Or.inr rfl))).trans (HCE.out k hlt).2;have hwl:=hws.wlt;obtain⟨s,hsg⟩:∃s,zt m ks[k]=some s:=HKM.out ks[k] (List.getElem_mem hlt);obtain⟨hs1,hs2,hs3⟩:=HSE4.out _ (yd hsg);have hrun:=ud b m ks[k].key ks[k].zvz (some s) hsg;simp only[Option.map_some] at hrun;have ho1:zah m ks[k]=zhv (ks[k],s):=by unfold zah;rw[hsg];rfl
    have hl1:(l++e4 m.length++(ks.take k).flatMap (zah m)).length+ks[k].key.size+2*s.mem.length≤80000:=by have:=HLK.out;rw[ho1,zno] at this;simp only at this;omega
    have hsw:qr wr s:=zw.same hs1 (Zk htu (zw.lt hs1) (Or.inl hs2));have HCB:Hid (∀w',wr.grownBy w' none→Calls Tryz.prog 95 #[.pointer (some ⟨wb,0,none⟩),.agg #[.string ks[k].key,.int .i64 ks[k].zvz],.map (some s.blk)] w' (jm (fun k=>own k∨k=g) wb (l++e4 m.length++(ks.take k).flatMap (zah m)++zah m ks[k]) w')):=(show ∀_,_→Calls _ _ _ _ _ from fun w' hg=>by
     rw[ho1]
     exact zrs (HW.out.keep hg) ks[k] s (zw.kept hsw hg (by simp)) (Or.inl hs2) hs3 hl1)
    clear hws htu hl1 hs1 hs2 hs3 hsw ho1 hsg;generalize zah m ks[k]=q5 at *;generalize ks[k]=z at *
    go_upto_region 4 with fail
    have hga:=zc wr (.cells #[.string z.key,.int .i64 z.zvz] 54) none;have hba:=heap_alloc_new wr (.cells #[.string z.key,.int .i64 z.zvz] 54);have hma:=hmr.kept hga (by simp)
    have HGA:=za hga;generalize wr.alloc (.cells #[.string z.key,.int .i64 z.zvz] 54)=wa at *;have k0:wa.cell? ⟨wr.heap.size,0,none⟩=some (.string z.key):=(zh hba 0).trans rfl;have k1:wa.cell? ⟨wr.heap.size,1,none⟩=some (.int .i64 z.zvz):=(zh hba 1).trans rfl;have hka:=yo k0;have hbl5:=hma.lt;clear hga hba ck ck1 hmr
    go_still_tail 5,(by kernel_rfl)
    go_wp2_with (go_at_call 95;refine(HCB.out _ (zf HGA.out)).mono ?_;rintro e w5 ⟨rfl,hq,ht⟩;have HQ6:=za hq;have HT6:=za (HTU.out.trans (xy (zf HGA.out) ht));clear hq ht)
    go_roundw
    case rel=>exact⟨k+1,by omega,by go_num,by rw[HN.out,←List.append_assoc];exact HQ6.out,HT6.out⟩
    case measure=>simp[intOf];omega
   ·obtain rfl:k=ks.length:=by omega
    clear hws htu;go_wp2
    first|go_end0|refine bodyPost_ret (results_none rfl _ _ _) rfl ?_
    rw[←HE.out];rw[List.take_length] at HW;have h1:=Qj (zd w4) HW.out HTU.out
    exact⟨rfl,h1.2.1,HT4.out.trans h1.2.2⟩
end
end Go.Proofs.YtjfelfjobeeenaaGreat
