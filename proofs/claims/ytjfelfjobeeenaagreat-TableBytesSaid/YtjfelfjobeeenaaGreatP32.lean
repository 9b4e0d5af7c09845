/- the table's text. A command's bytes (encB); table.Put's writer as a running state. Conditions: fields in their ranges. A command's bytes, read back: plain laws, no program. table.Put at each kind. Conditions: none. table.Get's reader: raw, number, text: the walks, with the way out by a panic. Conditions: bytes that lie in memory. -/
import Derived.Test.YtjfelfjobeeenaaGreatP31
import Derived.Test.YtjfelfjobeeenaaGreatP3
import Derived.Recover
import Derived.Laws.BytesString
import Derived.Laws.Slices
import Derived.Laws.BitsLemmas
import Derived.Laws.BytesArg
namespace Go.Proofs.YtjfelfjobeeenaaGreat
set_option linter.unusedVariables false
set_option linter.unusedSimpArgs false
open Go.RowKit Go.Sf
theorem conv_str (W:World) (s:ByteArray):∃y W2,(convert 9 25 (.string s)).run Tryz.prog W = .ok y W2∧W.grownBy W2 none∧RawRow W2 y (strB s):=
 ⟨_,_,Lib.run_convert_string_bytes (P:=Tryz.prog) W 9 25 5 s (u:=.string) Tryz.underlying9 Tryz.underlying25 Tryz.underlying5,grown_bytes _ _ _,rawRow_conv W s⟩
theorem Puts.then {W w1 w2 w3:World} {wb base:Nat} {v v1:Value} {l m:List Int} {e:Ending} (h:WBox W wb base v l) (hw:WBox w1 wb base v1 m) (ht:Turn (fun k=>k=wb∨v.ownBlock=some k) W w1) (hv:v.ownBlock=v1.ownBlock∨∀g,v1.ownBlock=some g→W.heap.size≤g) (hg:w1.grownBy w2 none)
  {m2:List Int} (hp:Puts w2 wb base v1 m2 e w3):Puts W wb base v m2 e w3:=by
 obtain⟨rfl,v2,hw2,ht2,hv2⟩:=hp
 refine⟨rfl,v2,hw2,⟨ht2.os.trans (hg.os.trans ht.os),ht2.tape.trans (hg.tape.trans ht.tape),ht2.output.trans (hg.output.trans ht.output),Nat.le_trans ht.size (Nat.le_trans hg.size ht2.size),fun k hk hn=>?_⟩,?_⟩
 ·have hk1:k<w1.heap.size:=Nat.lt_of_lt_of_le hk ht.size
  have hk2:k<w2.heap.size:=Nat.lt_of_lt_of_le hk1 hg.size
  refine(ht2.block k hk2 ?_).trans ((hg.block k hk1 (by simp)).trans (ht.block k hk hn))
  rintro(e|e)
  ·exact hn (Or.inl e)
  ·rcases hv with h0|h0
   ·exact hn (Or.inr (h0.trans e))
   ·exact absurd hk (Nat.not_lt.2 (h0 k e))
 ·have h3:W.heap.size≤w2.heap.size:=Nat.le_trans ht.size hg.size
  rcases hv2 with h2|h2
  ·rcases hv with h0|h0
   ·exact Or.inl (h0.trans h2)
   ·exact Or.inr (fun g e=>h0 g (h2.trans e))
  ·exact Or.inr (fun g e=>Nat.le_trans h3 (h2 g e))
theorem WBox.kept {W W':World} {wb base:Nat} {v:Value} {l:List Int} (h:WBox W wb base v l) (hg:W.grownBy W' none):WBox W' wb base v l:=
 ⟨(hg.block wb (Array.getElem?_eq_some_iff.1 h.box).1 (by simp)).trans h.box,h.row.kept hg (by
  rcases h:v.ownBlock with _|k
  ·exact Or.inl rfl
  ·exact Or.inr (by simp))⟩
set_option maxHeartbeats 2000000 in
set_option maxRecDepth 100000 in
theorem text_any {W:World} {wb base:Nat} {v:Value} {l:List Int} (s:ByteArray) (h:WBox W wb base v l) (hb:base≤wb) (hl:l.length+s.size≤10000000) :
  Calls Tryz.prog 52 #[.pointer (some ⟨wb,0,none⟩),.string s] W fun e w'=>Puts W wb base v (l++be 1 s.size++strB s) e w':=by
 have HB:Hid (Calls Tryz.prog 49 #[.pointer (some ⟨wb,0,none⟩),.int .u8 ((s.size:Int)%256)] W fun e w'=>Puts W wb base v (l++be 1 s.size) e w'):=by
  have e1:((s.size:Int)%256)=((s.size%256:Nat):Int):=by omega
  have e2:be 1 (s.size%256)=be 1 s.size:=by simp[be]
  have hb1:=byte_any h hb (by omega) (s.size%256) (by omega)
  rw[e2,←e1] at hb1
  exact hb1
 have H:=Lib.hid h
 clear h
 go_enter Tryz.func52,Tryz.ntmps52
 go_wp2_with (go_at_call 49;refine HB.out.mono ?_;rintro e w1 ⟨rfl,v1,hw,ht,hv⟩;obtain⟨y,w2,hcv,hg,hy⟩:=conv_str w1 s;have HP:Hid (∀e w3,Puts w2 wb base v1 (l++be 1 s.size++strB s) e w3→Puts W wb base v (l++be 1 s.size++strB s) e w3):=(fun e w3 h3=>Puts.then H.out hw ht hv hg h3);have HR:=Lib.hid (raw_any (hw.kept hg) hb hy (by rw[List.length_append,be_len,strB,List.length_map];show _+s.size≤_;omega));have HV:=Lib.hid hcv;clear hw ht hv hg hy hcv)
 rw[HV.out]
 simp only[Result.andThen]
 rw[Oper.upon_value]
 go_wp2_with (go_at_call 110;refine HR.out.mono ?_;intro e w3 hp;obtain⟨rfl,hq⟩:=HP.out e w3 hp;have HQ:=Lib.hid hq;clear hq hp)
 first|go_end0|refine bodyPost_ret (results_none rfl _ _ _) rfl ?_
 exact⟨rfl,HQ.out⟩
section
variable {W w : World} {wb : Nat} {v : Value} {l : List Int}
end
def num (l:List Int):Nat:=l.foldl (fun a b=>a*256+b.toNat) 0
theorem num_snoc (l:List Int) (b:Int):num (l ++ [b])=num l*256+b.toNat:=by simp[num]
def BL (l:List Int):Prop:=∀b∈l,0≤b∧b<256
theorem BL.app {l m:List Int} (h:BL l) (h':BL m):BL (l++m):=fun b hb=>by
 rcases List.mem_append.1 hb with h1|h1
 ·exact h b h1
 ·exact h' b h1
theorem BL.take {l:List Int} (h:BL l) (n:Nat):BL (l.take n):=fun b hb=>h b (List.mem_of_mem_take hb)
theorem BL.drop {l:List Int} (h:BL l) (n:Nat):BL (l.drop n):=fun b hb=>h b (List.mem_of_mem_drop hb)
theorem be_BL:∀(k n:Nat),BL (be k n)
 | 0,_=>fun b hb=>by simp[be] at hb
 | k+1,n=>by
  rw[be_eq]
  refine(be_BL k _).app fun b hb=>?_
  have:b=((n%256:Nat):Int):=by simpa using hb
  omega
theorem num_be:∀(k n:Nat),n<256 ^ k→num (be k n)=n
 | 0,n,h=>by
  have:n=0:=by simpa using h
  subst this;rfl
 | k+1,n,h=>by
  rw[be_eq,num_snoc,num_be k (n / 256) (by rw[Nat.pow_succ] at h;omega)]
  simp only[Int.toNat_natCast]
  omega
theorem be_num:∀(n:Nat) (l:List Int),l.length=n→BL l→be n (num l)=l∧num l<256 ^ n
 | 0,l,h,_=>by
  have:l = []:=List.eq_nil_of_length_eq_zero h
  subst this;exact⟨rfl,by decide⟩
 | n+1,l,h,hb=>by
  rcases List.eq_nil_or_concat l with rfl|⟨L,b,rfl⟩
  ·simp at h
  ·simp only[List.concat_eq_append] at *
   have hL:L.length=n:=by simpa using h
   obtain⟨h1,h2⟩:=be_num n L hL (fun x hx=>hb x (by simp[hx]))
   obtain⟨hb0,hb1⟩:=hb b (by simp)
   rw[num_snoc]
   have e1:(num L*256+b.toNat) / 256=num L:=by omega
   have e2:(num L*256+b.toNat)%256=b.toNat:=by omega
   have e3:((b.toNat:Nat):Int)=b:=by omega
   refine⟨by rw[be_eq,e1,e2,e3,h1],by rw[Nat.pow_succ];omega⟩
def ofB (l:List Int):ByteArray:=⟨(l.map fun b=>UInt8.ofNat b.toNat).toArray⟩
theorem ofB_strB (s:ByteArray):ofB (strB s)=s:=by
 obtain⟨⟨l⟩⟩:=s
 have e:(fun b:Int=>UInt8.ofNat b.toNat) ∘ (fun b:UInt8=>(b.toNat:Int))=id:=by funext b;simp
 simp[ofB,strB,List.map_map,e]
theorem strB_ofB {l:List Int} (h:BL l):strB (ofB l)=l:=by
 have:∀b∈l,(fun b:Int=>(((UInt8.ofNat b.toNat).toNat:Nat):Int)) b=b:=fun b hb=>by
  obtain⟨h0,h1⟩:=h b hb
  have:(UInt8.ofNat b.toNat).toNat=b.toNat:=by
   rw[UInt8.toNat_ofNat']
   omega
  simp only[this]
  omega
 simp only[ofB,strB,List.map_map]
 conv=>rhs;rw[←List.map_id l]
 exact List.map_congr_left this
theorem ofB_size (l:List Int):(ofB l).size=l.length:=by simp[ofB,ByteArray.size]
theorem strB_BL (s:ByteArray):BL (strB s):=fun b hb=>by
 obtain⟨x,_,rfl⟩:=List.mem_map.1 hb
 have:=x.toNat_lt
 omega
theorem strB_len (s:ByteArray):(strB s).length=s.size:=by rw[strB,List.length_map];rfl
def rd (n:Nat) (l:List Int):Option (Nat × List Int):=if n≤l.length then some (num (l.take n),l.drop n) else none
theorem rd_be (n x:Nat) (t:List Int) (h:x<256 ^ n):rd n (be n x++t)=some (x,t):=by
 have hl:(be n x).length=n:=be_len n x
 have e1:(be n x++t).take n=be n x:=List.take_left' hl
 have e2:(be n x++t).drop n=t:=List.drop_left' hl
 rw[rd,if_pos (by simp[hl]),e1,e2,num_be n x h]
theorem rd_some {n x:Nat} {l t:List Int} (hb:BL l) (h:rd n l=some (x,t)):l=be n x++t∧x<256 ^ n∧BL t:=by
 simp only[rd] at h
 split at h
 ·next hn=>
  injection h with h;injection h with h1 h2
  obtain⟨e1,e2⟩:=be_num n (l.take n) (by simp;omega) (hb.take n)
  rw[h1] at e1 e2
  refine⟨?_,e2,h2 ▸ hb.drop n⟩
  rw[e1,←h2,List.take_append_drop]
 ·cases h
def s64 (x:Nat):Int:=if x<9223372036854775808 then x else (x:Int)-18446744073709551616
def rdT (l:List Int):Option (ByteArray × List Int):=(rd 1 l).bind fun p=>if p.1≤p.2.length then some (ofB (p.2.take p.1),p.2.drop p.1) else none
theorem rdT_be (s:ByteArray) (t:List Int) (h:s.size<256):rdT (be 1 s.size++(strB s++t))=some (s,t):=by
 rw[rdT,rd_be 1 _ _ (by omega)]
 have hl:=strB_len s
 have e1:(strB s++t).take s.size=strB s:=List.take_left' hl
 have e2:(strB s++t).drop s.size=t:=List.drop_left' hl
 simp only[Option.bind_some]
 rw[if_pos (by simp[hl]),e1,e2,ofB_strB]
theorem rdT_some {s:ByteArray} {l t:List Int} (hb:BL l) (h:rdT l=some (s,t)):l=be 1 s.size++(strB s++t)∧s.size<256∧BL t:=by
 simp only[rdT] at h
 cases h1:rd 1 l with
 | none=>rw[h1] at h;cases h
 | some p=>
  obtain⟨x,r⟩:=p
  rw[h1,Option.bind_some] at h
  obtain⟨e1,e2,e3⟩:=rd_some hb h1
  split at h
  ·next hn=>
   injection h with h;injection h with h2 h3
   have hs:s.size=x:=by rw[←h2,ofB_size,List.length_take];exact Nat.min_eq_left hn
   refine⟨?_,by omega,h3 ▸ e3.drop x⟩
   rw[e1,hs,←h2,strB_ofB (e3.take x),←h3,List.take_append_drop]
  ·cases h
structure BRow (B:Nat) (W:World) (v:Value) (l:List Int):Prop where
 ex:∃p cap,v = .slice p l.length cap∧l.length≤cap∧cap≤9223372036854775807∧(l = []∨∃a,p=some a∧a.block<B∧∀j u,(bytesV l)[j]? = some u→W.cell? (a.add j)=some u)
theorem BRow.turn {B:Nat} {W W':World} {v:Value} {l:List Int} (h:BRow B W v l) (hs:∀k,k<B→W'.heap[k]? = W.heap[k]?):BRow B W' v l:=by
 obtain⟨p,cap,rfl,h1,h2,h3⟩:=h.ex
 refine⟨p,cap,rfl,h1,h2,?_⟩
 rcases h3 with h3|⟨a,rfl,hb,h4⟩
 ·exact Or.inl h3
 ·refine Or.inr ⟨a,rfl,hb,fun j u hu=>?_⟩
  have hbl:(a.add j).block=a.block:=by unfold Addr.add;split <;> rfl
  exact(World.cell?_of_block (hs _ (by rw[hbl];exact hb))).trans (h4 j u hu)
theorem BRow.upto {B:Nat} {W:World} {p:Option Addr} {cap:Nat} {l:List Int} (h:BRow B W (.slice p l.length cap) l) {n:Nat} (hn:n≤l.length):BRow B W (sliced p 0 n n 1) (l.take n):=by
 obtain⟨p',cap',e,h1,h2,h3⟩:=h.ex
 injection e with e1 _ e2
 subst e1 e2
 have hl:(l.take n).length=n:=by rw[List.length_take];omega
 have hb:n≤9223372036854775807:=by omega
 rcases h3 with h3|⟨a,rfl,hb2,h4⟩
 ·have h0:n=0:=by subst h3;simpa using hn
  subst h0 h3
  cases p with
  | none=>exact⟨none,0,by simp[sliced],by simp,by omega,Or.inl (by simp)⟩
  | some a=>exact⟨some a,0,by simp[sliced],by simp,by omega,Or.inl (by simp)⟩
 ·refine⟨some a,n,?_,by omega,hb,Or.inr ⟨a,rfl,hb2,fun j u hu=>?_⟩⟩
  ·simp[sliced,hl,Addr.add]
  ·refine h4 j u ?_
   rw[bytesV,List.map_take] at hu
   have hj:j<n:=by
    rcases Nat.lt_or_ge j n with h|h
    ·exact h
    ·rw[List.getElem?_eq_none (by rw[List.length_take];omega)] at hu;cases hu
   rw[List.getElem?_take_of_lt hj] at hu
   exact hu
theorem BRow.behind {B:Nat} {W:World} {p:Option Addr} {cap:Nat} {l:List Int} (h:BRow B W (.slice p l.length cap) l) {n:Nat} (hn:n≤l.length):BRow B W (sliced p n l.length cap 1) (l.drop n):=by
 obtain⟨p',cap',e,h1,h2,h3⟩:=h.ex
 injection e with e1 _ e2
 subst e1 e2
 have hl:(l.drop n).length=l.length-n:=by rw[List.length_drop]
 have hb:cap-n≤9223372036854775807:=by omega
 by_cases hd:l.drop n = []
 ·cases p with
  | none=>exact⟨none,cap-n,by simp[sliced,hl],by rw[hl];omega,hb,Or.inl hd⟩
  | some a=>exact⟨if cap=n then some a else some (a.add n),cap-n,by simp[sliced,hl],by rw[hl];omega,hb,Or.inl hd⟩
 ·rcases h3 with h3|⟨a,rfl,hb2,h4⟩
  ·exact absurd (by rw[h3];simp) hd
  ·have hlt:n<l.length:=by
    rcases Nat.lt_or_ge n l.length with h|h
    ·exact h
    ·exact absurd (List.drop_eq_nil_of_le h) hd
   have hc:cap≠n:=by omega
   refine⟨some (a.add n),cap-n,?_,by rw[hl];omega,hb,Or.inr ⟨a.add n,rfl,?_,fun j u hu=>?_⟩⟩
   ·simp[sliced,hl,hc]
   ·have hbl:(a.add n).block=a.block:=by unfold Addr.add;split <;> rfl
    rw[hbl];exact hb2
   ·rw[Addr.add_add]
    refine h4 (n+j) u ?_
    rw[bytesV,List.map_drop,List.getElem?_drop] at hu
    exact hu
structure Rd (B:Nat) (w:World) (rb:Nat) (l:List Int):Prop where
 le:B≤rb
 ex:∃v,w.heap[rb]? = some (.cells #[v] 107 (0,0))∧BRow B w v l
def thrown:Ending:=.panicked [{ v:=.iface 186 (.agg #[]),recovered:=false }]
def Reads {α:Type} (B:Nat) (w:World) (rb:Nat) (o:Option (α × List Int)) (R:Value→World→α→Prop) (e:Ending) (w':World):Prop:=
 Turn (fun k=>k=rb) w w'∧match o with
  | some (x,t)=>(∃v,e = .returned v∧R v w' x)∧Rd B w' rb t
  | none=>e=thrown
set_option maxRecDepth 100000 in
theorem want_true (W:World):Calls Tryz.prog 59 #[.bool true] W fun e w'=>e = .returned (.tuple #[])∧w'=W:=by
 go_enter Tryz.func59,Tryz.ntmps59
 go_wp2
 first|go_end0|refine bodyPost_ret (results_none rfl _ _ _) rfl ?_
 exact⟨rfl,rfl⟩
set_option maxRecDepth 100000 in
theorem want_false (W:World):Calls Tryz.prog 59 #[.bool false] W fun e w'=>e=thrown∧w'=W:=by
 go_enter Tryz.func59,Tryz.ntmps59
 go_wp2
 exact⟨rfl,rfl,rfl⟩
theorem Turn.refl (bs:Nat→Prop) (w:World):Turn bs w w:=⟨rfl,rfl,rfl,Nat.le_refl _,fun _ _ _=>rfl⟩
theorem Turn.trans {bs:Nat→Prop} {a b c:World} (h:Turn bs a b) (g:Turn bs b c):Turn bs a c:=
 ⟨g.os.trans h.os,g.tape.trans h.tape,g.output.trans h.output,Nat.le_trans h.size g.size,fun k hk hn=>(g.block k (Nat.lt_of_lt_of_le hk h.size) hn).trans (h.block k hk hn)⟩
theorem turn_set (w:World) (b i:Nat) (v:Value):Turn (fun k=>k=b) w (w.setCell ⟨b,i,none⟩ v):=by
 have hs:=grown_set w b i v
 exact⟨hs.os,hs.tape,hs.output,hs.size,fun k hk hn=>hs.block k hk (fun e=>hn (by cases e;rfl))⟩
theorem Rd.set {B:Nat} {w:World} {rb:Nat} {l t:List Int} (h:Rd B w rb l) {v:Value} (hv:BRow B w v t):Rd B (w.setCell ⟨rb,0,none⟩ v) rb t:=by
 obtain⟨v0,hb,-⟩:=h.ex
 refine⟨h.le,v,by simp[World.setCell,Array.getElem?_modify,hb],hv.turn fun k hk=>?_⟩
 exact Below.heap_setCell _ _ _ k (by have:=h.le;show k≠rb;omega)
theorem raw_end {B:Nat} {w:World} {rb n L cap:Nat} {l:List Int} {p:Option Addr} {v v':Value} (h:Rd B w rb l) (hu:BRow B w (sliced p 0 n n 1) (l.take n)) (hd:BRow B w (sliced p n L cap 1) (l.drop n)) (e2:sliced p 0 n n 1=v) (e1:sliced p n L cap 1=v') :
  Reads B w rb (some (l.take n,l.drop n)) (fun v w' x=>BRow B w' v x) (.returned v) (w.setCell ⟨rb,0,none⟩ v'):=by
 subst e1 e2
 exact⟨turn_set _ _ _ _,⟨_,rfl,hu.turn fun k hk=>Below.heap_setCell _ _ _ k (by have:=h.le;show k≠rb;omega)⟩,h.set hd⟩
set_option maxHeartbeats 2000000 in
set_option maxRecDepth 100000 in
theorem raw_read {B:Nat} {w:World} {rb:Nat} {l:List Int} (h:Rd B w rb l) (hB:B≤w.heap.size) (n:Nat) (hn:n≤1000000) :
  Calls Tryz.prog 112 #[.pointer (some ⟨rb,0,none⟩),.int .i64 n] w fun e w'=>Reads B w rb (if n≤l.length then some (l.take n,l.drop n) else none) (fun v w' x=>BRow B w' v x) e w':=by
 obtain⟨v,hb,hv⟩:=h.ex
 have hv0:=hv
 obtain⟨p,cap,rfl,hlc,hcm,-⟩:=hv.ex
 have c0:w.cell? ⟨rb,0,none⟩=some (.slice p l.length cap):=by simp[World.cell?,hb]
 have z0:w.frozen? ⟨rb,0,none⟩=false:=by simp[World.frozen?,hb]
 by_cases hle:n≤l.length
 ·rw[if_pos hle]
  have HU:=Lib.hid (hv0.upto hle)
  have HD:=Lib.hid (hv0.behind hle)
  have H:=Lib.hid h
  have hd:decide ((n:Int)≤(l.length:Int))=true:=by simpa using hle
  have hcl:(n:Int)≤(cap:Int):=by omega
  have hll:(n:Int)≤(l.length:Int):=by omega
  have HL:=Lib.hid hle
  clear h hv hv0 hb hle
  generalize hlen:l.length=L at *
  clear hlen
  go_enter Tryz.func112,Tryz.ntmps112
  go_wp2_with (go_at_call 59;first|(refine(want_true _).mono ?_;rintro e w1 ⟨rfl,rfl⟩)|(rw[hd];refine(want_true _).mono ?_;rintro e w1 ⟨rfl,rfl⟩))
  ·go_ret
   have e1:sliced p n L cap 1 = .slice p (L-n) (cap-n):=by simp[sliced,h]
   have e2:sliced p 0 n n 1 = .slice p n n:=by cases p <;> simp[sliced,Addr.add]
   exact raw_end H.out HU.out HD.out e2 (by subst h;simpa using e1)
  ·go_ret
   have e1:sliced p n L cap 1 = .slice (Option.map (fun x=>x.add n) p) (L-n) (cap-n):=by simp[sliced,h]
   have e2:sliced p 0 n n 1 = .slice p n n:=by cases p <;> simp[sliced,Addr.add]
   exact raw_end H.out HU.out HD.out e2 e1
 ·rw[if_neg hle]
  have hd:decide (n≤l.length)=false:=by simp;omega
  have hll:(l.length:Int)<(n:Int):=by omega
  clear h hv hv0 hb hle
  generalize hlen:l.length=L at *
  clear hlen
  go_enter Tryz.func112,Tryz.ntmps112
  go_wp2_with (go_at_call 59;first|(refine(want_false _).mono ?_;rintro e w1 ⟨rfl,rfl⟩;simp only[thrown])|(rw[hd];refine(want_false _).mono ?_;rintro e w1 ⟨rfl,rfl⟩;simp only[thrown]))
  exact⟨rfl,Turn.refl _ _,rfl⟩
theorem num_take_succ {l:List Int} {k:Nat} (hk:k<l.length):num (l.take (k+1))=num (l.take k)*256+(l.getD k 0).toNat:=by
 rw[List.take_succ_eq_append_getElem hk,num_snoc]
 congr 1
 simp[List.getD,List.getElem?_eq_getElem hk]
theorem num_lt {l:List Int} (h:BL l):num l<256 ^ l.length:=(be_num _ l rfl h).2
theorem wraps64 (n:Int) (h0:0≤n) (h1:n<2 ^ 64):IntKind.u64.wrap n=n:=by simp[IntKind.wrap,IntKind.bits,IntKind.signed];omega
theorem or_byte (x c:Nat) (hx:x<256 ^ 7) (hc:c<256):bits BinOp.or IntKind.u64 ((x:Int)*256) c=((x*256+c:Nat):Int):=by
 rw[bits_join .u64 64 (by decide) wraps64 8 _ _ (by omega) (by omega) (by omega) (by omega) (by omega) (by omega)]
 omega
theorem s64_wrap (x:Nat) (hx:x<256 ^ 8):wrap64 (x:Int)=s64 x:=by
 unfold wrap64 s64
 split <;> omega
set_option maxHeartbeats 2000000 in
set_option maxRecDepth 100000 in
theorem number_read {B:Nat} {w:World} {rb:Nat} {l:List Int} (h:Rd B w rb l) (hB:B≤w.heap.size) (hl:BL l) (n:Nat) (hn:n≤8) :
  Calls Tryz.prog 57 #[.pointer (some ⟨rb,0,none⟩),.int .i64 n] w fun e w'=>Reads B w rb (rd n l) (fun v w' x=>v = .int .i64 (s64 x)) e w':=by
 have HR:=Lib.hid (raw_read h hB n (by omega))
 clear h
 by_cases hle:n≤l.length
 ·rw[if_pos hle] at HR
  rw[rd,if_pos hle]
  have HL:Hid (BL (l.take n)∧(l.take n).length=n):=(show _∧_ from ⟨hl.take n,by rw[List.length_take];omega⟩)
  generalize l.take n=xs at *
  generalize l.drop n=t at *
  clear hle hl
  go_enter Tryz.func57,Tryz.ntmps57
  go_wp2_with (go_at_call 112;refine HR.out.mono ?_;rintro e w1 ⟨ht,⟨v,rfl,hv⟩,hd⟩;obtain⟨p,cap,rfl,-,-,hc⟩:=hv.ex;rw[HL.out.2];have HT:=Lib.hid ht;have HD:=Lib.hid hd;have HC:=Lib.hid hc;clear ht hd hc hv)
  go_loopw [5,12] (fun xv i wr=>w1=wr∧∃k:Nat,k≤n∧xv = .int .u64 (num (xs.take k))∧i = .int .i64 k) (fun _ i _=>n-(intOf i).toNat)
  case atStart=>exact⟨rfl,0,by omega,rfl,rfl⟩
  case round=>
   obtain⟨rfl,k,hk,rfl,rfl⟩:=hrel
   by_cases hkn:k<n
   ·have hkl:k<xs.length:=by rw[HL.out.2];exact hkn
    obtain⟨c,hc0,hc1⟩:∃c:Nat,c<256∧xs.getD k 0=c:=by
     have:=HL.out.1 xs[k] (List.getElem_mem _)
     exact⟨xs[k].toNat,by omega,by simp[List.getD,List.getElem?_eq_getElem hkl];omega⟩
    have hnum:num (xs.take (k+1))=num (xs.take k)*256+c:=by rw[num_take_succ hkl,hc1];simp
    have hlt:num (xs.take k)<256 ^ 7:=by
     have h1:=num_lt (HL.out.1.take k)
     rw[List.length_take] at h1
     exact Nat.lt_of_lt_of_le h1 (Nat.pow_le_pow_right (by decide) (by have:=HL.out.2;omega))
    obtain⟨a,rfl,cell⟩:∃a,p=some a∧w1.cell? (a.add k)=some (.int .u8 c):=by
     rcases HC.out with h0|⟨a,rfl,-,h1⟩
     ·rw[h0] at hkl;simp at hkl
     ·refine⟨a,rfl,h1 k _ ?_⟩
      rw[bytesV,List.getElem?_map,List.getElem?_eq_getElem hkl]
      simp[←hc1,List.getD,List.getElem?_eq_getElem hkl]
    go_wp2
    refine⟨⟨trivial,k+1,by omega,?_,by congr 1⟩,by simp[intOf];omega⟩
    rw[or_byte _ _ hlt hc0,hnum]
   ·have hkn':k=n:=by omega
    subst hkn'
    have hw:wrap64 ((num (xs.take k):Nat):Int)=s64 (num xs):=by
     have e:xs.take k=xs:=List.take_of_length_le (by rw[HL.out.2];exact Nat.le_refl _)
     rw[e]
     refine s64_wrap _ ?_
     have h1:=num_lt HL.out.1
     rw[HL.out.2] at h1
     exact Nat.lt_of_lt_of_le h1 (Nat.pow_le_pow_right (by decide) hn)
    go_wp2
    go_ret
    exact⟨HT.out,⟨_,rfl,congrArg (Value.int .i64) hw⟩,HD.out⟩
 ·rw[if_neg hle] at HR
  rw[rd,if_neg hle]
  go_enter Tryz.func57,Tryz.ntmps57
  go_wp2_with (go_at_call 112;refine HR.out.mono ?_;rintro e w1 ⟨ht,rfl⟩;simp only[thrown];have HT:=Lib.hid ht;clear ht)
  exact⟨rfl,HT.out,rfl⟩
theorem conv_bytes {B:Nat} {w:World} {v:Value} {l:List Int} (h:BRow B w v l):(convert 25 9 v).run Tryz.prog w = .ok (.string (ofB l)) w:=by
 obtain⟨p,cap,rfl,-,-,hc⟩:=h.ex
 rw[run_convert_bytes_string w _ _ 5 p _ cap Tryz.underlying25 Tryz.underlying5 Tryz.underlying9]
 cases p with
 | none=>
  have h0:l = []:=by
   rcases hc with h0|⟨a,h1,_⟩
   ·exact h0
   ·cases h1
  subst h0
  simp[Conv.bytesToString,ofB]
  rfl
 | some a=>
  have hl:(loadCells a l.length).run Tryz.prog w = .ok (l.map (Value.int .u8)).toArray w:=by
   have:=run_loadCells_list (P:=Tryz.prog) w a (l.map (Value.int .u8)) (fun j v hj=>by
    rcases hc with h0|⟨a',h1,_,h2⟩
    ·subst h0;simp at hj
    ·cases h1;exact h2 j v hj)
   simpa using this
  rw[run_bytesToString w a l.length cap l hl,foldl_push_bytes]
  simp[ofB,ByteArray.empty,ByteArray.emptyWithCapacity]
  rfl
set_option maxHeartbeats 2000000 in
set_option maxRecDepth 100000 in
theorem text_read {B:Nat} {w:World} {rb:Nat} {l:List Int} (h:Rd B w rb l) (hB:B≤w.heap.size) (hl:BL l) :
  Calls Tryz.prog 58 #[.pointer (some ⟨rb,0,none⟩)] w fun e w'=>Reads B w rb (rdT l) (fun v w' x=>v = .string x) e w':=by
 have HN:=Lib.hid (number_read h hB hl 1 (by omega))
 clear h
 rw[rdT]
 cases hr:rd 1 l with
 | none=>
  rw[hr] at HN
  simp only[Option.bind_none]
  go_enter Tryz.func58,Tryz.ntmps58
  go_wp2_with (go_at_call 57;refine HN.out.mono ?_;rintro e w1 ⟨ht,rfl⟩;simp only[thrown];have HT:=Lib.hid ht;clear ht)
  exact⟨rfl,HT.out,rfl⟩
 | some p=>
  obtain⟨n,t⟩:=p
  rw[hr] at HN
  obtain⟨e1,hn,ht⟩:=rd_some hl hr
  have hs:s64 n=(n:Int):=by rw[s64,if_pos (by omega)]
  simp only[Option.bind_some]
  have HR:Hid (∀w1,Turn (fun k=>k=rb) w w1→Rd B w1 rb t→Calls Tryz.prog 112 #[.pointer (some ⟨rb,0,none⟩),.int .i64 n] w1 fun e w'=>Reads B w1 rb (if n≤t.length then some (t.take n,t.drop n) else none) (fun v w' x=>BRow B w' v x) e w'):=
   (fun w1 ht hd=>raw_read hd (Nat.le_trans hB ht.size) n (by omega))
  by_cases hle:n≤t.length
  ·rw[if_pos hle] at HR
   rw[if_pos hle]
   have HL:=Lib.hid (ht.take n)
   generalize t.take n=xs at *
   generalize t.drop n=t2 at *
   clear hle hl hr e1
   go_enter Tryz.func58,Tryz.ntmps58
   go_wp2_with (first
    | (go_at_call 57;refine HN.out.mono ?_;rintro e w1 ⟨ht,⟨v,rfl,rfl⟩,hd⟩;rw[hs];have HT:=Lib.hid ht;have HD:=Lib.hid hd;clear ht hd)
    | (go_at_call 112;refine(HR.out _ HT.out HD.out).mono ?_;rintro e w2 ⟨ht2,⟨v,rfl,hv⟩,hd2⟩;have HCV:=Lib.hid (conv_bytes hv);have HT2:=Lib.hid ht2;have HD2:=Lib.hid hd2;clear ht2 hd2 hv))
   rw[HCV.out]
   simp only[Result.andThen]
   rw[Oper.upon_value]
   go_wp2
   go_ret
   exact⟨HT.out.trans HT2.out,⟨_,rfl,rfl⟩,HD2.out⟩
  ·rw[if_neg hle] at HR
   rw[if_neg hle]
   go_enter Tryz.func58,Tryz.ntmps58
   go_wp2_with (first
    | (go_at_call 57;refine HN.out.mono ?_;rintro e w1 ⟨ht,⟨v,rfl,rfl⟩,hd⟩;rw[hs];have HT:=Lib.hid ht;have HD:=Lib.hid hd;clear ht hd)
    | (go_at_call 112;refine(HR.out _ HT.out HD.out).mono ?_;rintro e w2 ⟨ht2,rfl⟩;simp only[thrown];have HT2:=Lib.hid ht2;clear ht2))
   exact⟨rfl,HT.out.trans HT2.out,rfl⟩
end Go.Proofs.YtjfelfjobeeenaaGreat
