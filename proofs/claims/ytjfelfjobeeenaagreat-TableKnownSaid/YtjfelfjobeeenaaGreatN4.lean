/- YtjfelfjobeeenaaGreatKMay A command's bytes (encB); table.Put's writer as a running state. Conditions: none, or as the theorems say. -/
import Derived.Test.YtjfelfjobeeenaaGreatN3
import Derived.Deep.DeepCutAuto
namespace Go.Proofs.YtjfelfjobeeenaaGreat
set_option maxHeartbeats 200000000
set_option linter.unusedVariables false
set_option linter.unusedSimpArgs false
open Go.RowKit Go.Sf
def zcg (c:Cmd):Bool:=decide (0≤c.zvx∧c.zvx≤4611686018427387904∧0≤c.zvy∧c.zvy≤4611686018427387904∧0≤c.zvz∧c.zvz≤4611686018427387904)
def Qf (c:Cmd):Bool:=decide (0≤c.node∧c.node<255∧0≤c.zvw∧c.zvw≤65535∧0≤c.code∧c.code≤65535)
theorem zrh {b:Bool} {c:Cmd} (h:b=true↔(0≤c.zvx∧c.zvx≤4611686018427387904∧0≤c.zvy∧c.zvy≤4611686018427387904∧0≤c.zvz∧c.zvz≤4611686018427387904)):Value.bool b=Value.bool (zcg c):=by
 congr 1
 rw[Bool.eq_iff_iff,h,zcg,decide_eq_true_iff]
theorem zpl {b:Bool} {c:Cmd} (h:b=true↔(0≤c.node∧c.node<255∧0≤c.zvw∧c.zvw≤65535∧0≤c.code∧c.code≤65535)):Value.bool b=Value.bool (Qf c):=by
 congr 1
 rw[Bool.eq_iff_iff,h,Qf,decide_eq_true_iff]
theorem qb (k k':ByteArray):(k.toList == k'.toList)=decide (k=k'):=by
 rw[Bool.eq_iff_iff,decide_eq_true_iff,beq_iff_eq,ByteArray.toList_eq,ByteArray.toList_eq];refine⟨fun h=>?_,fun h=>by rw[h]⟩
 obtain⟨⟨x⟩⟩:=k;obtain⟨⟨y⟩⟩:=k';simpa using h
theorem zkb (a b:Cmd) (w:World):(binOp .eql 24 (zp a) (zp b)).run Tryz.prog w = .ok (.bool (decide (a=b))) w:=by
 obtain⟨a1,a2,a3,a4,a5,a6,a7,a8⟩:=a;obtain⟨b1,b2,b3,b4,b5,b6,b7,b8⟩:=b;simp[zp,go_sem,qb]
 by_cases e1:a1=b1 <;> by_cases e2:a2=b2 <;> by_cases e3:a3=b3 <;> by_cases e4:a4=b4 <;> by_cases e5:a5=b5 <;> by_cases e6:a6=b6 <;> by_cases e7:a7=b7 <;> by_cases e8:a8=b8 <;> simp[e1,e2,e3,e4,e5,e6,e7,e8]
def ua (c:Cmd):Bool:=decide (1≤c.kind) && decide (c.kind≤7) && decide (c=vj c) && zcg c && Qf c && decide (c.key.size≤64)
theorem Ys (kind node zvw zvx zvy zvz code:Int) (key:ByteArray) (w:World) (hk:(key.size:Int)≤9223372036854775807) :
  Calls Tryz.prog 48 #[zp ⟨kind,node,zvw,zvx,zvy,zvz,key,code⟩] w fun e w'=>e = .returned (.bool (ua ⟨kind,node,zvw,zvx,zvy,zvz,key,code⟩))∧w.grownBy w' none:=by
 have heq:=fun W=>zkb ⟨kind,node,zvw,zvx,zvy,zvz,key,code⟩ (vj ⟨kind,node,zvw,zvx,zvy,zvz,key,code⟩) W
 obtain⟨bk,bn,bc,bi,br,bv,by_,bo,hb⟩:∃bk bn bc bi br bv by_ bo,vj ⟨kind,node,zvw,zvx,zvy,zvz,key,code⟩=⟨bk,bn,bc,bi,br,bv,by_,bo⟩:=⟨_,_,_,_,_,_,_,_,rfl⟩;have hbare:=fun h1 h7 W=>zs1 ⟨kind,node,zvw,zvx,zvy,zvz,key,code⟩ h1 h7 W
 have hm:ua ⟨kind,node,zvw,zvx,zvy,zvz,key,code⟩=(decide (1≤kind) && decide (kind≤7) && decide ((⟨kind,node,zvw,zvx,zvy,zvz,key,code⟩:Cmd)=vj ⟨kind,node,zvw,zvx,zvy,zvz,key,code⟩) && zcg ⟨kind,node,zvw,zvx,zvy,zvz,key,code⟩ && Qf ⟨kind,node,zvw,zvx,zvy,zvz,key,code⟩ && decide (key.size≤64)):=rfl;rw[hb] at heq hbare hm;clear hb;generalize hE:decide ((⟨kind,node,zvw,zvx,zvy,zvz,key,code⟩:Cmd)=⟨bk,bn,bc,bi,br,bv,by_,bo⟩)=E at heq hm;clear hE;have HM:=za hm;clear hm;have HB:Hid (1≤kind→kind≤7→∀W,Calls Tryz.prog 106 #[(.agg #[.int .u8 kind,.int .i64 node,.int .i64 zvw,.int .i64 zvx,.int .i64 zvy,.int .i64 zvz,.string key,.int .i64 code]:Value)] W fun e w'=>e = .returned (.agg #[.int .u8 bk,.int .i64 bn,.int .i64 bc,.int .i64 bi,.int .i64 br,.int .i64 bv,.string by_,.int .i64 bo]:Value)∧W.grownBy w' none):=hbare
 clear hbare;simp only[zp] at heq ⊢
 go_enter Tryz.func48,Tryz.ntmps48
 go_upto_region 1 with fail
 go_cut [3] (fun s wx=>s = .bool (zcg ⟨kind,node,zvw,zvx,zvy,zvz,key,code⟩)∧wx=w.alloc (.cells #[.int .u8 kind,.int .i64 node,.int .i64 zvw,.int .i64 zvx,.int .i64 zvy,.int .i64 zvz,.string key,.int .i64 code] 24))
 case first=>
  clear heq;go_wp2
  all_goals (go_meet;refine⟨?_,rfl⟩;refine zrh ?_;simp only[decide_eq_true_eq,eq_self_iff_true,Bool.false_eq_true,true_iff,false_iff];omega)
 case rest=>
  obtain⟨rfl,rfl⟩:=hcut
  go_upto_region 2 with fail
  go_cut [4] (fun s wx=>s = .bool (Qf ⟨kind,node,zvw,zvx,zvy,zvz,key,code⟩)∧wx=w.alloc (.cells #[.int .u8 kind,.int .i64 node,.int .i64 zvw,.int .i64 zvx,.int .i64 zvy,.int .i64 zvz,.string key,.int .i64 code] 24))
  case first=>
   clear heq;go_wp2
   all_goals (go_meet;refine⟨?_,rfl⟩;refine zpl ?_;simp only[decide_eq_true_eq,eq_self_iff_true,Bool.false_eq_true,true_iff,false_iff];omega)
  case rest=>
   obtain⟨rfl,rfl⟩:=hcut;generalize zcg ⟨kind,node,zvw,zvx,zvy,zvz,key,code⟩=L at *;generalize Qf ⟨kind,node,zvw,zvx,zvy,zvz,key,code⟩=S at *;go_wp2
   by_cases h1:1≤kind
   ·have hd1:decide (1≤kind)=true:=by simpa using h1
    by_cases h7:kind≤7
    ·have hd7:decide (kind≤7)=true:=by simpa using h7
     cases E
     ·skip
      refine zo (by kernel_rfl) (by kernel_rfl) ?_
      repeat (any_goals (first|go_big_quiet_step (((go_at_call 106;exact zq (HB.out h1 h7 _))))|quiet_step (((go_at_call 106;exact zq (HB.out h1 h7 _))))))
      refine wpQuiet_nil ?_;intro _ hw';obtain⟨x,hw''⟩:=hw';subst hw'';go_wp2
      go_ret
      exact⟨by rw[HM.out];simp[hd1,hd7],by repeat (first|exact zd _|exact zc _ _ _|refine zi ?_ _|refine zg ?_ _|refine zf ?_)⟩
     ·cases L
      ·skip
       refine zo (by kernel_rfl) (by kernel_rfl) ?_
       repeat (any_goals (first|go_big_quiet_step (((go_at_call 106;exact zq (HB.out h1 h7 _))))|quiet_step (((go_at_call 106;exact zq (HB.out h1 h7 _))))))
       refine wpQuiet_nil ?_;intro _ hw';obtain⟨x,hw''⟩:=hw';subst hw'';go_wp2
       go_ret
       exact⟨by rw[HM.out];simp[hd1,hd7],by repeat (first|exact zd _|exact zc _ _ _|refine zi ?_ _|refine zg ?_ _|refine zf ?_)⟩
      ·cases S
       ·skip
        refine zo (by kernel_rfl) (by kernel_rfl) ?_
        repeat (any_goals (first|go_big_quiet_step (((go_at_call 106;exact zq (HB.out h1 h7 _))))|quiet_step (((go_at_call 106;exact zq (HB.out h1 h7 _))))))
        refine wpQuiet_nil ?_;intro _ hw';obtain⟨x,hw''⟩:=hw';subst hw'';go_wp2
        go_ret
        exact⟨by rw[HM.out];simp[hd1,hd7],by repeat (first|exact zd _|exact zc _ _ _|refine zi ?_ _|refine zg ?_ _|refine zf ?_)⟩
       ·by_cases h64:(key.size:Int)≤64
        ·have hd64:decide ((key.size:Int)≤64)=true:=by simpa using h64
         have hd64':decide (key.size≤64)=true:=by simp;omega
         refine zo (by kernel_rfl) (by kernel_rfl) ?_
         repeat (any_goals (first|go_big_quiet_step (((go_at_call 106;exact zq (HB.out h1 h7 _))))|quiet_step (((go_at_call 106;exact zq (HB.out h1 h7 _))))))
         refine wpQuiet_nil ?_;intro _ hw';obtain⟨x,hw''⟩:=hw';subst hw'';go_wp2
         go_ret
         exact⟨by rw[HM.out];simp[hd1,hd7,hd64'],by repeat (first|exact zd _|exact zc _ _ _|refine zi ?_ _|refine zg ?_ _|refine zf ?_)⟩
        ·have hd64:decide ((key.size:Int)≤64)=false:=by simpa using h64
         have hd64':decide (key.size≤64)=false:=by simp;omega
         refine zo (by kernel_rfl) (by kernel_rfl) ?_
         repeat (any_goals (first|go_big_quiet_step (((go_at_call 106;exact zq (HB.out h1 h7 _))))|quiet_step (((go_at_call 106;exact zq (HB.out h1 h7 _))))))
         refine wpQuiet_nil ?_;intro _ hw';obtain⟨x,hw''⟩:=hw';subst hw'';go_wp2
         go_ret
         exact⟨by rw[HM.out];simp[hd1,hd7,hd64'],by repeat (first|exact zd _|exact zc _ _ _|refine zi ?_ _|refine zg ?_ _|refine zf ?_)⟩
    ·have hd7:decide (kind≤7)=false:=by simpa using h7
     refine zo (by kernel_rfl) (by kernel_rfl) ?_
     repeat (any_goals (first|go_big_quiet_step (fail)|quiet_step (fail)))
     refine wpQuiet_nil ?_;intro _ hw';obtain⟨x,hw''⟩:=hw';subst hw'';go_wp2
     go_ret
     exact⟨by rw[HM.out];simp[hd1,hd7],by repeat (first|exact zd _|exact zc _ _ _|refine zi ?_ _|refine zg ?_ _|refine zf ?_)⟩
   ·have hd:decide (1≤kind)=false:=by simpa using h1
    refine zo (by kernel_rfl) (by kernel_rfl) ?_
    repeat (any_goals (first|go_big_quiet_step (fail)|quiet_step (fail)))
    refine wpQuiet_nil ?_;intro _ hw';obtain⟨x,hw''⟩:=hw';subst hw'';go_wp2
    go_ret
    exact⟨by rw[HM.out];simp[hd],by repeat (first|exact zd _|exact zc _ _ _|refine zi ?_ _|refine zg ?_ _|refine zf ?_)⟩
def Yo (c:Cmd):List Int:=
 if c.kind=2∨c.kind=4∨c.kind=5 then be 2 c.node.toNat++be 8 c.zvx.toNat
 else if c.kind=3∨c.kind=6∨c.kind=7 then be 2 c.zvw.toNat++be 8 c.zvy.toNat
 else []
def Qw (c:Cmd):List Int:=if 3≤c.kind∧c.kind≤6 then be 1 c.key.size++qz c.key else []
def Yr (c:Cmd):List Int:=
 if c.kind=4∨c.kind=5 then be 8 c.zvz.toNat
 else if c.kind=7 then be 2 c.code.toNat
 else []
def xm (c:Cmd):List Int:=be 1 c.kind.toNat++Yo c++Qw c++Yr c
structure PSt (W:World) (wb:Nat) (v:Value) (l:List Int) (w:World):Prop where
 box:Xy w wb wb v l
 grown:W.grownBy w none
 le:W.heap.size≤wb
 own:∀g,v.ownBlock=some g→W.heap.size≤g
theorem PSt.step {W w w':World} {wb:Nat} {v:Value} {l l':List Int} {e:Ending} (h:PSt W wb v l w) (hp:za3 w wb wb v l' e w'):e = .returned (.tuple #[])∧∃v',PSt W wb v' l' w':=by
 obtain⟨rfl,v',hw,ht,hv⟩:=hp;refine⟨rfl,v',hw,⟨ht.os.trans h.grown.os,ht.tape.trans h.grown.tape,ht.output.trans h.grown.output,Nat.le_trans h.grown.size ht.size,fun k hk hn=>?_⟩,h.le,fun g hg=>?_⟩
 ·refine(ht.block k (Nat.lt_of_lt_of_le hk h.grown.size) ?_).trans (h.grown.block k hk hn)
  rintro(e|e)
  ·have:=h.le;omega
  ·have:=h.own k e;omega
 ·rcases hv with e|e
  ·exact h.own g (e.trans hg)
  ·exact Nat.le_trans h.grown.size (e g hg)
theorem PSt.start (W w:World) (hg:W.grownBy w none):PSt W w.heap.size (.slice none 0 0) [] (w.alloc (.cells #[.slice none 0 0] 96)):=
 ⟨⟨heap_alloc_new w _,World.ownsRow_nil _ _ _ _⟩,zg hg _,hg.size,fun g h=>by simp[Value.ownBlock] at h⟩
section
variable {W w : World} {wb : Nat} {v : Value} {l : List Int}
theorem PSt.byte (h:PSt W wb v l w) (hl:l.length≤100000) (x:Int) (h0:0≤x) (h1:x<256):Calls Tryz.prog 49 #[.pointer (some ⟨wb,0,none⟩),.int .u8 x] w fun e w'=>e = .returned (.tuple #[])∧∃v',PSt W wb v' (l++be 1 x.toNat) w':=by
 have hx:(x.toNat:Int)=x:=by omega
 have hh:=zgg h.box (Nat.le_refl _) (by omega) x.toNat (by omega)
 rw[hx] at hh
 exact hh.mono fun e w' hp=>h.step hp
theorem PSt.short (h:PSt W wb v l w) (hl:l.length≤100000) (x:Int) (h0:0≤x) (h1:x<65536):Calls Tryz.prog 50 #[.pointer (some ⟨wb,0,none⟩),.int .u16 (x%65536)] w fun e w'=>e = .returned (.tuple #[])∧∃v',PSt W wb v' (l++be 2 x.toNat) w':=by
 have hx:(x.toNat:Int)=x%65536:=by omega
 have hh:=zjp h.box (Nat.le_refl _) (by omega) x.toNat (by omega)
 rw[hx] at hh
 exact hh.mono fun e w' hp=>h.step hp
theorem PSt.long (h:PSt W wb v l w) (hl:l.length≤100000) (x:Int) (h0:0≤x) (h1:x<9223372036854775808):Calls Tryz.prog 51 #[.pointer (some ⟨wb,0,none⟩),.int .u64 (x%18446744073709551616)] w fun e w'=>e = .returned (.tuple #[])∧∃v',PSt W wb v' (l++be 8 x.toNat) w':=by
 have hx:(x.toNat:Int)=x%18446744073709551616:=by omega
 have hh:=zmf h.box (Nat.le_refl _) (by omega) x.toNat (by omega)
 rw[hx] at hh
 exact hh.mono fun e w' hp=>h.step hp
theorem PSt.text (h:PSt W wb v l w) (s:ByteArray) (hl:l.length+s.size≤100000):Calls Tryz.prog 52 #[.pointer (some ⟨wb,0,none⟩),.string s] w fun e w'=>e = .returned (.tuple #[])∧∃v',PSt W wb v' (l++(be 1 s.size++qz s)) w':=by
 have hh:=znz s h.box (Nat.le_refl _) (by omega)
 exact hh.mono fun e w' hp=>by have:=h.step hp;rwa [List.append_assoc] at this
theorem PSt.out (h:PSt W wb v l w) (hl:l.length≤100000):Calls Tryz.prog 53 #[.pointer (some ⟨wb,0,none⟩)] w fun e w'=>∃v',e = .returned v'∧w'.ownsRow W.heap.size 5 1 v' l.length (zu l)∧W.grownBy w' none:=
 (zqf h.box (by omega)).mono fun e w' ⟨v',h1,h2,h3⟩=>⟨v',h1,Vk h2 h.grown.size,ze h.grown h3⟩
end
theorem ux {c:Cmd} (h:ua c=true):0≤c.node∧c.node<255∧0≤c.zvw∧c.zvw≤65535∧0≤c.zvx∧c.zvx≤4611686018427387904∧0≤c.zvy∧c.zvy≤4611686018427387904∧0≤c.zvz∧c.zvz≤4611686018427387904∧0≤c.code∧c.code≤65535∧c.key.size≤64:=by
 simp only[ua,zcg,Qf,Bool.and_eq_true,decide_eq_true_eq] at h;omega
def num (l:List Int):Nat:=l.foldl (fun a b=>a*256+b.toNat) 0
theorem zhb (l:List Int) (b:Int):num (l ++ [b])=num l*256+b.toNat:=by simp[num]
def BL (l:List Int):Prop:=∀b∈l,0≤b∧b<256
theorem BL.app {l m:List Int} (h:BL l) (h':BL m):BL (l++m):=fun b hb=>by
 rcases List.mem_append.1 hb with h1|h1
 ·exact h b h1
 ·exact h' b h1
theorem BL.take {l:List Int} (h:BL l) (n:Nat):BL (l.take n):=fun b hb=>h b (List.mem_of_mem_take hb)
theorem BL.drop {l:List Int} (h:BL l) (n:Nat):BL (l.drop n):=fun b hb=>h b (List.mem_of_mem_drop hb)
theorem zaw:∀(k n:Nat),BL (be k n)
 | 0,_=>fun b hb=>by simp[be] at hb
 | k+1,n=>by
  rw[Uq];refine(zaw k _).app fun b hb=>?_
  have:b=((n%256:Nat):Int):=by simpa using hb
  omega
theorem zuc:∀(k n:Nat),n<256 ^ k→num (be k n)=n
 | 0,n,h=>by
  have:n=0:=by simpa using h
  subst this;rfl
 | k+1,n,h=>by
  rw[Uq,zhb,zuc k (n / 256) (by rw[Nat.pow_succ] at h;omega)]
  simp only[Int.toNat_natCast];omega
theorem zn8:∀(n:Nat) (l:List Int),l.length=n→BL l→be n (num l)=l∧num l<256 ^ n
 | 0,l,h,_=>by
  have:l = []:=List.eq_nil_of_length_eq_zero h;subst this;exact⟨rfl,by decide⟩
 | n+1,l,h,hb=>by
  rcases List.eq_nil_or_concat l with rfl|⟨L,b,rfl⟩
  ·simp at h
  ·simp only[List.concat_eq_append] at *
   have hL:L.length=n:=by simpa using h
   obtain⟨h1,h2⟩:=zn8 n L hL (fun x hx=>hb x (by simp[hx]))
   obtain⟨hb0,hb1⟩:=hb b (by simp)
   rw[zhb];have e1:(num L*256+b.toNat) / 256=num L:=by omega
   have e2:(num L*256+b.toNat)%256=b.toNat:=by omega
   have e3:((b.toNat:Nat):Int)=b:=by omega
   refine⟨by rw[Uq,e1,e2,e3,h1],by rw[Nat.pow_succ];omega⟩
def ofB (l:List Int):ByteArray:=⟨(l.map fun b=>UInt8.ofNat b.toNat).toArray⟩
theorem zue (s:ByteArray):ofB (qz s)=s:=by
 obtain⟨⟨l⟩⟩:=s;have e:(fun b:Int=>UInt8.ofNat b.toNat) ∘ (fun b:UInt8=>(b.toNat:Int))=id:=by funext b;simp
 simp[ofB,qz,List.map_map,e]
theorem zbo {l:List Int} (h:BL l):qz (ofB l)=l:=by
 have:∀b∈l,(fun b:Int=>(((UInt8.ofNat b.toNat).toNat:Nat):Int)) b=b:=fun b hb=>by
  obtain⟨h0,h1⟩:=h b hb;have:(UInt8.ofNat b.toNat).toNat=b.toNat:=by
   rw[UInt8.toNat_ofNat'];omega
  simp only[this];omega
 simp only[ofB,qz,List.map_map]
 conv=>rhs;rw[←List.map_id l]
 exact List.map_congr_left this
theorem zhc (l:List Int):(ofB l).size=l.length:=by simp[ofB,ByteArray.size]
theorem zav (s:ByteArray):BL (qz s):=fun b hb=>by
 obtain⟨x,_,rfl⟩:=List.mem_map.1 hb;have:=x.toNat_lt;omega
theorem zy (s:ByteArray):(qz s).length=s.size:=by rw[qz,List.length_map];rfl
def rd (n:Nat) (l:List Int):Option (Nat × List Int):=if n≤l.length then some (num (l.take n),l.drop n) else none
theorem zfl (n x:Nat) (t:List Int) (h:x<256 ^ n):rd n (be n x++t)=some (x,t):=by
 have hl:(be n x).length=n:=yn n x;have e1:(be n x++t).take n=be n x:=List.take_left' hl;have e2:(be n x++t).drop n=t:=List.drop_left' hl;rw[rd,if_pos (by simp[hl]),e1,e2,zuc n x h]
theorem xz {n x:Nat} {l t:List Int} (hb:BL l) (h:rd n l=some (x,t)):l=be n x++t∧x<256 ^ n∧BL t:=by
 simp only[rd] at h
 split at h
 ·next hn=>
  injection h with h;injection h with h1 h2
  obtain⟨e1,e2⟩:=zn8 n (l.take n) (by simp;omega) (hb.take n)
  rw[h1] at e1 e2;refine⟨?_,e2,h2 ▸ hb.drop n⟩;rw[e1,←h2,List.take_append_drop]
 ·cases h
def s64 (x:Nat):Int:=if x<9223372036854775808 then x else (x:Int)-18446744073709551616
def Xd (k:Nat) (l:List Int):Option ((Int × Int × Int × Int) × List Int):=
 if k=2∨k=4∨k=5 then (rd 2 l).bind fun p=>(rd 8 p.2).bind fun q=>some ((p.1,s64 q.1,0,0),q.2)
 else if k=3∨k=6∨k=7 then (rd 2 l).bind fun p=>(rd 8 p.2).bind fun q=>some ((0,0,p.1,s64 q.1),q.2)
 else some ((0,0,0,0),l)
def rdT (l:List Int):Option (ByteArray × List Int):=(rd 1 l).bind fun p=>if p.1≤p.2.length then some (ofB (p.2.take p.1),p.2.drop p.1) else none
def Jo (k:Nat) (l:List Int):Option (ByteArray × List Int):=if 3≤k∧k≤6 then rdT l else some (⟨#[]⟩,l)
def Xe (k:Nat) (l:List Int):Option ((Int × Int) × List Int):=
 if k=4∨k=5 then (rd 8 l).bind fun p=>some ((s64 p.1,0),p.2)
 else if k=7 then (rd 2 l).bind fun p=>some ((0,(p.1:Int)),p.2)
 else some ((0,0),l)
def par (l:List Int):Option (Cmd × List Int):=
 (rd 1 l).bind fun k=>(Xd k.1 k.2).bind fun h=>(Jo k.1 h.2).bind fun y=>(Xe k.1 y.2).bind fun t=>
  some (⟨k.1,h.1.1,h.1.2.2.1,h.1.2.1,h.1.2.2.2,t.1.1,y.1,t.1.2⟩,t.2)
def jh (l:List Int):Option Cmd:=(par l).bind fun p=>if p.2 = []∧ua p.1=true then some p.1 else none
theorem zux (s:ByteArray) (t:List Int) (h:s.size<256):rdT (be 1 s.size++(qz s++t))=some (s,t):=by
 rw[rdT,zfl 1 _ _ (by omega)]
 have hl:=zy s;have e1:(qz s++t).take s.size=qz s:=List.take_left' hl;have e2:(qz s++t).drop s.size=t:=List.drop_left' hl;simp only[Option.bind_some];rw[if_pos (by simp[hl]),e1,e2,zue]
theorem zbj {s:ByteArray} {l t:List Int} (hb:BL l) (h:rdT l=some (s,t)):l=be 1 s.size++(qz s++t)∧s.size<256∧BL t:=by
 simp only[rdT] at h
 cases h1:rd 1 l with
 | none=>rw[h1] at h;cases h
 | some p=>
  obtain⟨x,r⟩:=p;rw[h1,Option.bind_some] at h;obtain⟨e1,e2,e3⟩:=xz hb h1
  split at h
  ·next hn=>
   injection h with h;injection h with h2 h3
   have hs:s.size=x:=by rw[←h2,zhc,List.length_take];exact Nat.min_eq_left hn
   refine⟨?_,by omega,h3 ▸ e3.drop x⟩
   rw[e1,hs,←h2,zbo (e3.take x),←h3,List.take_append_drop]
  ·cases h
theorem zk5 {i:Int} (h0:0≤i) (h1:i≤4611686018427387904):s64 i.toNat=i:=by
 rw[s64,if_pos (by omega)];omega
theorem zes {x:Nat} (hx:x<256 ^ 8) (h0:0≤s64 x):(s64 x).toNat=x:=by
 rw[s64] at h0 ⊢
 split at h0
 ·next h=>rw[if_pos h];omega
 ·omega
theorem zdi {c:Cmd} (h:ua c=true):(1≤c.kind∧c.kind≤7)∧c=vj c:=by
 simp only[ua,Bool.and_eq_true,decide_eq_true_eq] at h
 exact⟨⟨h.1.1.1.1.1,h.1.1.1.1.2⟩,h.1.1.1.2⟩
theorem zqg {c:Cmd} (h:ua c=true) (t:List Int):par (xm c++t)=some (c,t):=by
 obtain⟨⟨k1,k7⟩,hb⟩:=zdi h;obtain⟨p1,p2,p3,p4,p5,p6,p7,p8,p9,p10,p11,p12,p13⟩:=ux h;clear h;obtain⟨kind,node,zvw,zvx,zvy,zvz,key,code⟩:=c;simp only at k1 k7 p1 p2 p3 p4 p5 p6 p7 p8 p9 p10 p11 p12 p13;have q1:s64 zvx.toNat=zvx:=zk5 p5 p6;have q2:s64 zvy.toNat=zvy:=zk5 p7 p8;have q3:s64 zvz.toNat=zvz:=zk5 p9 p10;have hk:kind=1∨kind=2∨kind=3∨kind=4∨kind=5∨kind=6∨kind=7:=by omega
 have e0:∀(k:Nat) (u:List Int),k<256→rd 1 (be 1 k++u)=some (k,u):=fun k u hk=>zfl 1 k u (by omega)
 have e2:∀(k:Nat) (u:List Int),k<65536→rd 2 (be 2 k++u)=some (k,u):=fun k u hk=>zfl 2 k u (by omega)
 have e8:∀(i:Int) (u:List Int),i≤4611686018427387904→rd 8 (be 8 i.toNat++u)=some (i.toNat,u):=fun i u hi=>zfl 8 i.toNat u (by omega)
 have eT:∀u,rdT (be 1 key.size++(qz key++u))=some (key,u):=fun u=>zux key u (by omega)
 have n1:((node.toNat:Nat):Int)=node:=by omega
 have n2:((zvw.toNat:Nat):Int)=zvw:=by omega
 have n3:((code.toNat:Nat):Int)=code:=by omega
 rcases hk with rfl|rfl|rfl|rfl|rfl|rfl|rfl <;> simp[vj] at hb <;>
  simp[par,xm,Yo,Qw,Yr,Xd,Jo,Xe,e0,e2,e8,eT,p6,p8,p10,q1,q2,q3,n1,n2,n3,hb,show node.toNat<65536 by omega,show zvw.toNat<65536 by omega,show code.toNat<65536 by omega,-List.append_eq_nil_iff]
theorem zuj {c:Cmd} {l t:List Int} (hb:BL l) (hm:ua c=true) (h:par l=some (c,t)):l=xm c++t:=by
 obtain⟨⟨k1,k7⟩,hbare⟩:=zdi hm;obtain⟨p1,p2,p3,p4,p5,p6,p7,p8,p9,p10,p11,p12,p13⟩:=ux hm;clear hm hbare;simp only[par] at h
 cases h1:rd 1 l with
 | none=>rw[h1] at h;cases h
 | some r=>
  obtain⟨k,l1⟩:=r;rw[h1,Option.bind_some] at h;obtain⟨a1,a2,a3⟩:=xz hb h1
  cases h2:Xd k l1 with
  | none=>simp only[h2] at h;cases h
  | some r=>
   obtain⟨⟨node,zvx,zvw,zvy⟩,l2⟩:=r;simp only[h2,Option.bind_some] at h
   cases h3:Jo k l2 with
   | none=>simp only[h3] at h;cases h
   | some r=>
    obtain⟨key,l3⟩:=r;simp only[h3,Option.bind_some] at h
    cases h4:Xe k l3 with
    | none=>simp only[h4] at h;cases h
    | some r=>
     obtain⟨⟨zvz,code⟩,l4⟩:=r;simp only[h4,Option.bind_some] at h
     injection h with h;injection h with h5 h6
     subst h6;subst h5;simp only at k1 k7 p1 p2 p3 p4 p5 p6 p7 p8 p9 p10 p11 p12 p13;have hk:k=1∨k=2∨k=3∨k=4∨k=5∨k=6∨k=7:=by omega
     -- head
     have H2:l1=Yo ⟨k,node,zvw,zvx,zvy,zvz,key,code⟩++l2∧BL l2:=by
      simp only[Xd] at h2;simp only[Yo]
      split at h2
      ·next hc=>
       rw[if_pos (by omega)]
       cases g1:rd 2 l1 with
       | none=>rw[g1] at h2;cases h2
       | some r=>
        obtain⟨x,m1⟩:=r;rw[g1,Option.bind_some] at h2;obtain⟨b1,b2,b3⟩:=xz a3 g1
        cases g2:rd 8 m1 with
        | none=>simp only[g2] at h2;cases h2
        | some r=>
         obtain⟨y,m2⟩:=r;simp only[g2,Option.bind_some] at h2;obtain⟨c1,c2,c3⟩:=xz b3 g2
         injection h2 with h2;injection h2 with h21 h22
         injection h21 with i1 i2;injection i2 with i2 i3
         subst h22 i1;rw[←i2] at p5 ⊢;rw[zes c2 p5,b1,c1]
         exact⟨by simp,c3⟩
      ·next hc=>
       rw[if_neg (by omega)]
       split at h2
       ·next hc=>
        rw[if_pos (by omega)]
        cases g1:rd 2 l1 with
        | none=>rw[g1] at h2;cases h2
        | some r=>
         obtain⟨x,m1⟩:=r;rw[g1,Option.bind_some] at h2;obtain⟨b1,b2,b3⟩:=xz a3 g1
         cases g2:rd 8 m1 with
         | none=>simp only[g2] at h2;cases h2
         | some r=>
          obtain⟨y,m2⟩:=r;simp only[g2,Option.bind_some] at h2;obtain⟨c1,c2,c3⟩:=xz b3 g2
          injection h2 with h2;injection h2 with h21 h22
          injection h21 with i1 i2;injection i2 with i2 i3;injection i3 with i3 i4
          subst h22 i3;rw[←i4] at p7 ⊢;rw[zes c2 p7,b1,c1]
          exact⟨by simp,c3⟩
       ·next hc=>
        rw[if_neg (by omega)]
        injection h2 with h2;injection h2 with h21 h22
        subst h22
        exact⟨rfl,a3⟩
     have H3:l2=Qw ⟨k,node,zvw,zvx,zvy,zvz,key,code⟩++l3∧BL l3:=by
      simp only[Jo] at h3;simp only[Qw]
      split at h3
      ·next hc=>
       rw[if_pos (by omega)]
       obtain⟨b1,b2,b3⟩:=zbj H2.2 h3
       exact⟨by rw[b1];simp,b3⟩
      ·next hc=>
       rw[if_neg (by omega)]
       injection h3 with h3;injection h3 with h31 h32
       subst h32
       exact⟨rfl,H2.2⟩
     have H4:l3=Yr ⟨k,node,zvw,zvx,zvy,zvz,key,code⟩++l4:=by
      simp only[Xe] at h4;simp only[Yr]
      split at h4
      ·next hc=>
       rw[if_pos (by omega)]
       cases g1:rd 8 l3 with
       | none=>rw[g1] at h4;cases h4
       | some r=>
        obtain⟨x,m1⟩:=r;rw[g1,Option.bind_some] at h4;obtain⟨b1,b2,b3⟩:=xz H3.2 g1
        injection h4 with h4;injection h4 with h41 h42
        injection h41 with i1 i2
        subst h42;rw[←i1] at p9 ⊢;rw[zes b2 p9,b1]
      ·next hc=>
       rw[if_neg (by omega)]
       split at h4
       ·next hc=>
        rw[if_pos (by omega)]
        cases g1:rd 2 l3 with
        | none=>rw[g1] at h4;cases h4
        | some r=>
         obtain⟨x,m1⟩:=r;rw[g1,Option.bind_some] at h4;obtain⟨b1,b2,b3⟩:=xz H3.2 g1
         injection h4 with h4;injection h4 with h41 h42
         injection h41 with i1 i2
         subst h42 i2;rw[b1];simp
       ·next hc=>
        rw[if_neg (by omega)]
        injection h4 with h4;injection h4 with h41 h42
     rw[a1,H2.1,H3.1,H4,xm];simp
theorem zj7 {c:Cmd} (h:ua c=true):jh (xm c)=some c:=by
 have:=zqg h [];rw[List.append_nil] at this;rw[jh,this];simp[h]
theorem zgl {c:Cmd} (h:ua c=true) (b:Int):jh (xm c ++ [b])=none:=by
 rw[jh,zqg h [b]];simp
theorem zgm {l:List Int} {c:Cmd} (hb:BL l) (h:jh l=some c):ua c=true∧xm c=l:=by
 simp only[jh] at h
 cases h1:par l with
 | none=>rw[h1] at h;cases h
 | some p=>
  obtain⟨d,t⟩:=p;rw[h1,Option.bind_some] at h
  split at h
  ·next hc=>
   injection h with h
   simp only at hc h;subst h;have:=zuj hb hc.2 h1;rw[hc.1,List.append_nil] at this
   exact⟨hc.2,this.symm⟩
  ·cases h
theorem zoh (c:Cmd):BL (xm c):=by
 have h0:BL []:=fun b hb=>by simp at hb
 refine((((zaw _ _).app ?_).app ?_).app ?_)
 ·simp only[Yo];repeat' split
  all_goals first|exact h0|exact(zaw _ _).app (zaw _ _)
 ·simp only[Qw];split
  ·exact(zaw _ _).app (zav _)
  ·exact h0
 ·simp only[Yr];repeat' split
  all_goals first|exact h0|exact zaw _ _
theorem zoi (c:Cmd):xm c≠[]:=by
 intro h;have:=congrArg List.length h;simp[xm,yn] at this
theorem zlq {c:Cmd} (h:ua c=true):jh (xm c).dropLast=none:=by
 rcases List.eq_nil_or_concat (xm c) with h0|⟨L,b,h0⟩
 ·exact absurd h0 (zoi c)
 ·rw[List.concat_eq_append] at h0
  rw[h0,List.dropLast_concat]
  cases h1:jh L with
  | none=>rfl
  | some d=>
   have hb:BL L:=fun x hx=>zoh c x (by rw[h0];simp[hx])
   obtain⟨hd,he⟩:=zgm hb h1;have e1:=zj7 h;rw[h0,←he,zgl hd] at e1
   cases e1
end Go.Proofs.YtjfelfjobeeenaaGreat
