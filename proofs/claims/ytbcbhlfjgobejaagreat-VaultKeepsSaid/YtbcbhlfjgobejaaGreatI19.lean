/- A map of typed pairs as the shelf's contracts have it. Conditions: none, or as the theorems say. -/
import Derived.Test.YtbcbhlfjgobejaaGreatI1
import Derived.Shelf.SlIterI.Nil
import Derived.Shelf.SlIter.Nil
import Derived.Sort.KeysCollected
import Derived.Shelf.SortM.Plain
import Derived.Shelf.SortM.SortNone
import Derived.Ground.GgzProg
import Derived.Ground.SlgmProg
import Derived.Shelf.SlGeneric
import Derived.Test.YtbcbhlfjgobejaaGreatProg
import Derived.Test.YtbcbhlfjgobejaaGreatI18
import Derived.Deep.OwnRows
import Derived.Lib.SlBytesConst
import Derived.Maps.AppendAt
import Derived.Deep.RegionLaw
import Derived.StillTailTactics
import Derived.Test.YtbcbhlfjgobejaaGreatI14
import Derived.Lib.AppendStr
import Derived.Laws.OwnMore
import Derived.Test.YtbcbhlfjgobejaaGreatI15
import Derived.Test.YtbcbhlfjgobejaaGreatI17
set_option linter.unusedSimpArgs false
set_option linter.unusedVariables false
namespace Go.Sf
set_option maxHeartbeats 200000000
open Go.MapKept Go.RowKit Go.Maps
open Go.WideElems (Fit rd rg)
def za5:Value→Option (DataW Unit × List MemPlace):=fun _=>some (.nil,[])
theorem yg.owns {P:Program} {k:TypeId} {K V:Type} {ek:K→Value} {ev:V→Value} {w:World} {b:Nat} {m:List (K × V)} (h:yg w b ek ev m) (kl:K→Lit) (hk:∀p∈m,keyOf P k (ek p.1)=some (kl p.1)) (hl:m.length≤maxLen) :
  ∃E,w.ownsMap P k za5 b m.length (.map E)∧E.Perm (m.map fun p=>(kl p.1,(DataW.nil:DataW Unit))):=by
 obtain⟨es,clock,hb,hs,he⟩:=h;have hsz:es.size=m.length:=by have:=congrArg List.length he;simpa using this
 have hrd:∀x∈es.toList,∀p∈m,x.key=ek p.1→rd P k za5 x=some (kl p.1,.nil):=fun x hx p hp e=>by
  unfold rd;rw[e,hk p hp]
  rfl
 refine⟨(es.toList.map (rg P k za5)).foldr DataW.insert [],⟨es,clock,hb,⟨by omega,hs,fun x hx=>?_⟩,by omega,rfl⟩,(WideShapes.sorted_perm _).trans ?_⟩
 ·obtain⟨p,hp,e1,_⟩:=Yd he x hx
  exact⟨_,hrd x hx p hp e1⟩
 ·have:es.toList.map (rg P k za5)=m.map fun p=>(kl p.1,(DataW.nil:DataW Unit)):=by
   apply List.ext_getElem?
   intro i;simp only[List.getElem?_map]
   cases hi:es.toList[i]? with
   | none=>
    have:m[i]? = none:=by
     rw[List.getElem?_eq_none_iff] at hi ⊢;simpa[hsz] using hi
    rw[this];rfl
   | some x=>
    obtain⟨p,hp,e1,_⟩:=Xg he hi;rw[hp];simp only[Option.map_some];unfold rg;rw[hrd x (List.mem_of_getElem? hi) p (List.mem_of_getElem? hp) e1]
    rfl
  rw[this]
end Go.Sf
namespace Go.Proofs
open Go.Shelf
def Tryz.keysI_ren:Go.Shelf.Ren:=⟨fun|7=>106|10=>178|n=>n,fun|23=>129|26=>2|3=>158|28=>181|0=>0|27=>180|33=>271|4=>4|n=>n,fun|n=>n⟩
theorem Tryz.keysI:Go.Proofs.SlLaysZI.n7 Tryz.prog Tryz.keysI_ren:={
 mixed:=by kernel_rfl
 f7:=⟨Tryz.f106.name,by decide,Tryz.func106.trans (congrArg some (by kernel_rfl))⟩
 f10:=⟨Tryz.f178.name,by decide,Tryz.func178.trans (congrArg some (by kernel_rfl))⟩
 t0:=Tryz.underlying0
 a0:=Tryz.isAgg0
 z0:=Tryz.sizeOf0
 v0:=Tryz.zeroValue0
 t4:=Tryz.underlying4
 a4:=Tryz.isAgg4
 z4:=Tryz.sizeOf4
 v4:=Tryz.zeroValue4
 t23:=Tryz.underlying129
 a23:=Tryz.isAgg129
 z23:=Tryz.sizeOf129
 v23:=Tryz.zeroValue129
 t26:=Tryz.underlying2
 a26:=Tryz.isAgg2
 z26:=Tryz.sizeOf2
 v26:=Tryz.zeroValue2
 t27:=Tryz.underlying180
 a27:=Tryz.isAgg180
 z27:=Tryz.sizeOf180
 v27:=Tryz.zeroValue180
 t28:=Tryz.underlying181
 a28:=Tryz.isAgg181
 z28:=Tryz.sizeOf181
 v28:=Tryz.zeroValue181
 t33:=Tryz.underlying271
 a33:=Tryz.isAgg271
 z33:=Tryz.sizeOf271
 v33:=Tryz.zeroValue271 }
def Tryz.sortedI_ren:Go.Shelf.Ren:=⟨fun|6=>105|8=>177|9=>131|11=>219|13=>191|12=>190|23=>234|24=>235|14=>225|15=>226|16=>227|17=>228|18=>229|19=>230|20=>231|21=>232|22=>233|25=>258|26=>259|27=>260|28=>261|29=>262|30=>172|31=>276|n=>n,fun|26=>2|28=>181|24=>40|0=>0|3=>3|37=>285|48=>172|50=>51|4=>4|40=>319|39=>318|45=>324|5=>5|9=>9|51=>342|55=>345|57=>357|58=>358|33=>271|n=>n,fun|n=>n⟩
theorem Tryz.sortedI:Go.Proofs.SlLaysZI.n6 Tryz.prog Tryz.sortedI_ren:={
 mixed:=by kernel_rfl
 f6:=⟨Tryz.f105.name,by decide,Tryz.func105.trans (congrArg some (by kernel_rfl))⟩
 f8:=⟨Tryz.f177.name,by decide,Tryz.func177.trans (congrArg some (by kernel_rfl))⟩
 f11:=⟨Tryz.f219.name,by decide,Tryz.func219.trans (congrArg some (by kernel_rfl))⟩
 t0:=Tryz.underlying0
 a0:=Tryz.isAgg0
 z0:=Tryz.sizeOf0
 v0:=Tryz.zeroValue0
 t24:=Tryz.underlying40
 a24:=Tryz.isAgg40
 z24:=Tryz.sizeOf40
 v24:=Tryz.zeroValue40
 t26:=Tryz.underlying2
 a26:=Tryz.isAgg2
 z26:=Tryz.sizeOf2
 v26:=Tryz.zeroValue2
 t28:=Tryz.underlying181
 a28:=Tryz.isAgg181
 z28:=Tryz.sizeOf181
 v28:=Tryz.zeroValue181
 i26:=by kernel_rfl }
def Tryz.sortI_ren:Go.Shelf.Ren:=⟨fun|5=>131|8=>191|7=>190|19=>234|20=>235|10=>225|11=>226|12=>227|13=>228|14=>229|15=>230|16=>231|17=>232|18=>233|30=>258|31=>259|32=>260|33=>261|34=>262|35=>172|40=>276|n=>n,fun|23=>40|25=>2|3=>3|32=>285|22=>40|0=>0|44=>172|46=>51|4=>4|36=>319|35=>318|41=>324|5=>5|9=>9|53=>342|57=>345|63=>357|64=>358|n=>n,fun|n=>n⟩
theorem Tryz.sortI:Go.Proofs.SlLaysM.n5 Tryz.prog Tryz.sortI_ren:={
 mixed:=by kernel_rfl
 f5:=⟨Tryz.f131.name,by decide,Tryz.func131.trans (congrArg some (by kernel_rfl))⟩
 f7:=⟨Tryz.f190.name,by decide,Tryz.func190.trans (congrArg some (by kernel_rfl))⟩
 f8:=Tryz.func191.trans (congrArg some (by kernel_rfl))
 f10:=⟨Tryz.f225.name,by decide,Tryz.func225.trans (congrArg some (by kernel_rfl))⟩
 f11:=⟨Tryz.f226.name,by decide,Tryz.func226.trans (congrArg some (by kernel_rfl))⟩
 f12:=⟨Tryz.f227.name,by decide,Tryz.func227.trans (congrArg some (by kernel_rfl))⟩
 f13:=⟨Tryz.f228.name,by decide,Tryz.func228.trans (congrArg some (by kernel_rfl))⟩
 f14:=⟨Tryz.f229.name,by decide,Tryz.func229.trans (congrArg some (by kernel_rfl))⟩
 f15:=⟨Tryz.f230.name,by decide,Tryz.func230.trans (congrArg some (by kernel_rfl))⟩
 f16:=⟨Tryz.f231.name,by decide,Tryz.func231.trans (congrArg some (by kernel_rfl))⟩
 f17:=⟨Tryz.f232.name,by decide,Tryz.func232.trans (congrArg some (by kernel_rfl))⟩
 f18:=⟨Tryz.f233.name,by decide,Tryz.func233.trans (congrArg some (by kernel_rfl))⟩
 f19:=Tryz.func234.trans (congrArg some (by kernel_rfl))
 f20:=Tryz.func235.trans (congrArg some (by kernel_rfl))
 f30:=⟨Tryz.f258.name,by decide,Tryz.func258.trans (congrArg some (by kernel_rfl))⟩
 f31:=Tryz.func259.trans (congrArg some (by kernel_rfl))
 f32:=Tryz.func260.trans (congrArg some (by kernel_rfl))
 f33:=⟨Tryz.f261.name,by decide,Tryz.func261.trans (congrArg some (by kernel_rfl))⟩
 f34:=⟨Tryz.f262.name,by decide,Tryz.func262.trans (congrArg some (by kernel_rfl))⟩
 f35:=⟨Tryz.f172.name,by decide,Tryz.func172.trans (congrArg some (by kernel_rfl))⟩
 f40:=⟨Tryz.f276.name,by decide,Tryz.func276.trans (congrArg some (by kernel_rfl))⟩
 t0:=Tryz.underlying0
 a0:=Tryz.isAgg0
 z0:=Tryz.sizeOf0
 v0:=Tryz.zeroValue0
 t3:=Tryz.underlying3
 a3:=Tryz.isAgg3
 z3:=Tryz.sizeOf3
 v3:=Tryz.zeroValue3
 t4:=Tryz.underlying4
 a4:=Tryz.isAgg4
 z4:=Tryz.sizeOf4
 v4:=Tryz.zeroValue4
 t5:=Tryz.underlying5
 a5:=Tryz.isAgg5
 z5:=Tryz.sizeOf5
 v5:=Tryz.zeroValue5
 t9:=Tryz.underlying9
 a9:=Tryz.isAgg9
 z9:=Tryz.sizeOf9
 v9:=Tryz.zeroValue9
 t22:=Tryz.underlying40
 a22:=Tryz.isAgg40
 z22:=Tryz.sizeOf40
 v22:=Tryz.zeroValue40
 t23:=Tryz.underlying40
 a23:=Tryz.isAgg40
 z23:=Tryz.sizeOf40
 v23:=Tryz.zeroValue40
 t25:=Tryz.underlying2
 a25:=Tryz.isAgg2
 z25:=Tryz.sizeOf2
 v25:=Tryz.zeroValue2
 t32:=Tryz.underlying285
 a32:=Tryz.isAgg285
 z32:=Tryz.sizeOf285
 v32:=Tryz.zeroValue285
 t35:=Tryz.underlying318
 a35:=Tryz.isAgg318
 z35:=Tryz.sizeOf318
 v35:=Tryz.zeroValue318
 t36:=Tryz.underlying319
 a36:=Tryz.isAgg319
 z36:=Tryz.sizeOf319
 v36:=Tryz.zeroValue319
 t41:=Tryz.underlying324
 a41:=Tryz.isAgg324
 z41:=Tryz.sizeOf324
 v41:=Tryz.zeroValue324
 t44:=Tryz.underlying172
 a44:=Tryz.isAgg172
 z44:=Tryz.sizeOf172
 v44:=Tryz.zeroValue172
 t46:=Tryz.underlying51
 a46:=Tryz.isAgg51
 z46:=Tryz.sizeOf51
 v46:=Tryz.zeroValue51
 t53:=Tryz.underlying342
 a53:=Tryz.isAgg342
 z53:=Tryz.sizeOf342
 v53:=Tryz.zeroValue342
 t57:=Tryz.underlying345
 a57:=Tryz.isAgg345
 z57:=Tryz.sizeOf345
 v57:=Tryz.zeroValue345
 t63:=Tryz.underlying357
 a63:=Tryz.isAgg357
 z63:=Tryz.sizeOf357
 v63:=Tryz.zeroValue357
 t64:=Tryz.underlying358
 a64:=Tryz.isAgg358
 z64:=Tryz.sizeOf358
 v64:=Tryz.zeroValue358 }
end Go.Proofs
namespace Go.Proofs.YtbcbhlfjgobejaaGreat
open Go.RowKit Go.Sf Go.Shelf Go.Maps Go.Sort
theorem sortsI (m:Nat):AnyZI.SortsIn Tryz.prog Tryz.sortedI_ren Fence.wide m:=
 ⟨fun blk off cap ss W hH hblk hsz=>callsIn_wide.2 (AnyM.slices_Sort_int Tryz.sortI blk off cap ss W hH hblk hsz),
 fun p cap W=>callsIn_wide.2 (AnyM.slices_Sort_int_none Tryz.sortI p cap W)⟩
theorem Vf {w w':World} (h:Below w.heap.size w w'):w.grownBy w' none:=⟨h.os,h.tape,h.output,h.size,fun k hk _=>h.block k hk⟩
theorem zj1 (mb:Option Nat) (W:World):Calls Tryz.prog 106 #[.map mb] W fun e w'=>
  e = .returned (.func (.func 178) #[] #[.pointer (some ⟨W.heap.size,0,none⟩)])∧w'=W.alloc (.cells #[.map mb] 129):=
 callsIn_wide.1 (AnyZI.keys_in Tryz.keysI Fence.wide 5 trivial rfl mb W)
theorem zeb {l:List Int} {E:List (Lit × DataW Unit)} (h:E.Perm (l.map fun n=>(Lit.int .i64 n,(DataW.nil:DataW Unit)))):(intKeys (.map E)).Perm l:=by
 have h1:=h.map (fun p=>(match p.1 with | .int _ x=>x|_=>0:Int))
 have h2:(l.map fun n=>(Lit.int .i64 n,(DataW.nil:DataW Unit))).map (fun p=>(match p.1 with | .int _ x=>x|_=>0:Int))=l:=by
  rw[List.map_map];simp[Function.comp_def]
 rw[h2] at h1
 exact h1
def Ints (w w':World) (v:Value) (l:List Int):Prop:=w'.ownsRow w.heap.size 2 1 v l.length (l.map (Value.int .i64))∧(v = .slice none 0 0↔l = [])∧w.grownBy w' none
theorem zgr {W:World} {mb:Nat} {m:List (Int × (Value × Value))} (h:yg W mb (Value.int .i64) Xn m) (hr:∀n∈m.map (·.1),(Lit.int .i64 n).wf=true) (hl:m.length≤1000000) (Bm:Nat) (hBm:Bm<W.heap.size) (hm:W.cell? ⟨Bm,0,none⟩=some (.map (some mb))) :
  Calls Tryz.prog 105 #[.func (.func 178) #[] #[.pointer (some ⟨Bm,0,none⟩)]] W
   fun e w'=>∃v,e = .returned v∧Ints W w' v ((m.map (·.1)).mergeSort fun x y=>decide (x≤y)):=by
 obtain⟨E,hown,hE⟩:=yg.owns (P:=Tryz.prog) (k:=2) h (fun n=>Lit.int .i64 n) (fun p hp=>by
  exact keyOf_int_mk Tryz.underlying2 (hr p.1 (List.mem_map.2 ⟨p,hp,rfl⟩))) (by simp[maxLen];omega)
 have hE':E.Perm ((m.map (·.1)).map fun n=>(Lit.int .i64 n,(DataW.nil:DataW Unit))):=by
  rw[List.map_map];exact hE
 have hkeys:=zeb hE';have hsz:Maps.size (.map E:DataW Unit)=m.length:=by
  have:=hE'.length_eq;simpa[Maps.size] using this
 have hbl:=hown.lt;have hseq:SeqGives Fence.wide 2 Tryz.prog 178 #[.pointer (some ⟨Bm,0,none⟩)] encZ (fun ss=>ss.Perm (intKeys (.map E:DataW Unit))) (Maps.size (.map E:DataW Unit)) W:=
  AnyZI.keys_gives (ρ:=Tryz.keysI_ren) { Tryz.keysI with } Fence.wide _ trivial rfl (by omega) Bm mb _ (.map E) _ hBm hm hown
 have cS:=AnyZI.sorted_in Tryz.sortedI Fence.wide 5 trivial trivial trivial trivial rfl (by omega) (sortsI _) (enters_of Tryz.func131 (by kernel_rfl) rfl) 178 #[.pointer (some ⟨Bm,0,none⟩)] trivial (enters_of Tryz.func178 (by kernel_rfl) rfl) _ _ (by rw[hsz];simp[maxLen];omega) (by rw[hsz];omega) _ hseq
 refine(callsIn_wide.1 cS).mono ?_;rintro e w' ⟨v,ss,rfl,hS,hrow,hnil,hb⟩;have hp:ss.Perm (m.map (·.1)):=hS.trans hkeys
 have hm:(ss.mergeSort fun x y=>decide (x≤y))=((m.map (·.1)).mergeSort fun x y=>decide (x≤y)):=mergeSort_of_perm_i hp
 refine⟨v,rfl,?_,?_,Vf hb⟩
 ·have h1:ss.length=((m.map (·.1)).mergeSort fun x y=>decide (x≤y)).length:=by rw[←hm,List.length_mergeSort]
  rw[h1,hm] at hrow
  exact hrow
 ·rw[hnil,←hm]
  constructor
  ·intro h0;rw[h0];simp
  ·intro h0
   have:=congrArg List.length h0;rw[List.length_mergeSort] at this
   exact List.eq_nil_of_length_eq_zero (by simpa using this)
section
variable {own : Nat → Prop} {W W' : World} {st db mb tb : Nat} {rv : Int → Value × Value} {rb : Nat → Prop} {S : Sto}
set_option maxRecDepth 100000 in
theorem zm8 (h:SAt own W st db mb tb rv rb S) (hk:∀r∈S.recs,1≤r.1∧r.1≤4611686018427387904) (hl:S.recs.length≤1000000):Calls Tryz.prog 26 #[.pointer (some ⟨st,0,none⟩)] W fun e w'=>W.grownBy w' none∧∃v,e = .returned v∧w'.ownsRow W.heap.size 2 1 v S.recs.length (((S.recs.map (·.1)).mergeSort fun x y=>decide (x≤y)).map (Value.int .i64)):=by
 obtain⟨c0,c1,c2,c3,c4,y⟩:=h.cells;have hg:=zg W (.cells #[.map (some mb)] 129) none;have hb:=heap_alloc_new W (.cells #[.map (some mb)] 129);have HSO:=zd (zgr (h.recs.kept hg (by simp)) (fun n hn=>by
  obtain⟨r,hr,rfl⟩:=List.mem_map.1 hn;obtain⟨r0,hr0,rfl⟩:=List.mem_map.1 hr;have:=hk r0 hr0;have e1:IntKind.i64.min = -9223372036854775808:=by decide
  have e2:IntKind.i64.max=9223372036854775807:=by decide
  simp[Lit.wf,e1,e2];omega) (by simpa using hl) W.heap.size (by simp) ((zh hb 0).trans rfl))
 have HK:=zd (zj1 (some mb) W);have HE:Hid (((S.recs.map fun r=>(r.1,rv r.1)).map (·.1))=S.recs.map (·.1)):=(show _=_ from by rw[List.map_map];rfl)
 have HG:=zd hg;clear h hg hb
 go_enter Tryz.func26,Tryz.ntmps26
 go_wp2_with (first
  | (go_at_call 106;refine HK.out.mono ?_;rintro e w1 ⟨rfl,rfl⟩)
  | (go_at_call 105;refine HSO.out.mono ?_;rintro e w4 ⟨v,rfl,hv⟩;have HV:=zd hv;clear hv))
 go_ret
 have h1:=HV.out.1;rw[HE.out] at h1;simp only[List.length_mergeSort,List.length_map] at h1
 exact⟨zo HG.out HV.out.2.2,v,rfl,Ye h1 (by simp)⟩
end
open Go.RowKit Go.Sf
theorem Xl (g j:Nat):(⟨g,0,none⟩:Addr).add j=⟨g,j,none⟩:=by unfold Addr.add;split <;> simp_all
theorem ze7 (b off j:Nat):(⟨b,off,none⟩:Addr).add j=⟨b,off+j,none⟩:=by unfold Addr.add;split <;> simp_all
theorem zkh (l:List Int) (s:ByteArray):l.foldl (fun r n=>r.push (UInt8.ofNat n.toNat)) s=⟨s.data++(l.map fun b=>UInt8.ofNat b.toNat).toArray⟩:=by
 induction l generalizing s with
 | nil=>simp
 | cons n l ih=>
  rw[List.foldl_cons,ih];simp[ByteArray.push]
theorem Xa {w:World} {v:Value} {l:List Int} (h:yc w v l):(convert 32 9 v).run Tryz.prog w = .ok (.string (ofB l)) w:=by
 obtain⟨p,cap,rfl,hc⟩:=h.ex;rw[run_convert_bytes_string w _ _ 5 p _ cap Tryz.underlying32 Tryz.underlying5 Tryz.underlying9]
 cases p with
 | none=>
  have h0:l = []:=by
   rcases hc with h0|⟨a,h1,_⟩
   ·exact h0
   ·cases h1
  subst h0;simp[Conv.bytesToString,ofB]
  rfl
 | some a=>
  have hl:(loadCells a l.length).run Tryz.prog w = .ok (l.map (Value.int .u8)).toArray w:=by
   have:=run_loadCells_list (P:=Tryz.prog) w a (l.map (Value.int .u8)) (fun j v hj=>by
    rcases hc with h0|⟨a',h1,h2⟩
    ·subst h0;simp at hj
    ·cases h1;exact h2 j v (by simpa[zi] using hj))
   simpa using this
  rw[run_bytesToString w a l.length cap l hl,zkh];simp[ofB,ByteArray.empty,ByteArray.emptyWithCapacity]
  rfl
open Go.RowKit Go.Sf Go.Shelf
theorem zi4 {α:Type} (enc:α→List Value) (sz:Nat) (he:∀x,(enc x).length=sz):∀(l:List α) (i j:Nat) (hi:i<l.length),j<sz→(l.flatMap enc)[i*sz+j]? = (enc l[i])[j]?
 | [],i,j,hi,_=>by simp at hi
 | x :: r,0,j,hi,hj=>by
  simp only[List.flatMap_cons,Nat.zero_mul,Nat.zero_add,List.getElem_cons_zero];rw[List.getElem?_append_left (by rw[he];exact hj)]
 | x :: r,i+1,j,hi,hj=>by
  simp only[List.flatMap_cons,List.getElem_cons_succ];rw[List.getElem?_append_right (by rw[he,Nat.succ_mul];omega),he]
  have e:(i+1)*sz+j-sz=i*sz+j:=by rw[Nat.succ_mul];omega
  rw[e]
  exact zi4 enc sz he r i j (by simpa using hi) hj
theorem zdb {α:Type} (enc:α→List Value) (sz:Nat) (he:∀x,(enc x).length=sz):∀(l:List α),(l.flatMap enc).length=l.length*sz
 | []=>by simp
 | x :: r=>by simp only[List.flatMap_cons,List.length_append,he,zdb enc sz he r,List.length_cons,Nat.succ_mul];omega
theorem xi {W w1 w2:World} {r:Option Nat} (h1:W.grownBy w1 none) (h2:w1.grownBy w2 r) (hr:∀b,r=some b→W.heap.size≤b):W.grownBy w2 none:=
 ⟨h2.os.trans h1.os,h2.tape.trans h1.tape,h2.output.trans h1.output,Nat.le_trans h1.size h2.size,fun k hk _=>(h2.block k (Nat.lt_of_lt_of_le hk h1.size) (fun e=>by have:=hr k e.symm;omega)).trans (h1.block k hk (by simp))⟩
def uk {α:Type} (W:World) (E:TypeId) (sz:Nat) (enc:α→List Value) (v:Value) (l:List α):Prop:=W.ownsRow 0 E sz v l.length (l.flatMap enc)
section
variable {α : Type} {W W' : World} {E : TypeId} {sz : Nat} {enc : α → List Value} {v : Value} {l : List α}
theorem uk.form (h:uk W E sz enc v l):∃p cap,v = .slice p l.length cap∧cap≤9223372036854775807∧l.length≤cap:=by
 rcases h.2 with ⟨e1,h0⟩|⟨b,c,cur,e1,_,_,r1,r2,_⟩
 ·exact⟨none,0,by rw[e1,h0],by omega,by omega⟩
 ·exact⟨_,_,e1,by unfold maxLen at r2;omega,r1⟩
theorem uk.at (he:∀x,(enc x).length=sz) (h:uk W E sz enc v l):l = []∨∃g cap,v = .slice (some ⟨g,0,none⟩) l.length cap∧(∀i,(hi:i<l.length)→∀j u,(enc l[i])[j]? = some u→W.cell? ⟨g,i*sz+j,none⟩=some u)∧∀i,W.frozen? ⟨g,i,none⟩=false:=by
 rcases h.2 with ⟨e1,h0⟩|⟨b,c,cur,e1,_,hb,r1,r2,r3,r4⟩
 ·exact Or.inl (List.eq_nil_of_length_eq_zero h0)
 ·refine Or.inr ⟨b,c,e1,fun i hi j u hu=>?_,fun i=>by simp[World.frozen?,hb]⟩
  have hj:j<sz:=by
   have:=(List.getElem?_eq_some_iff.1 hu).1;rw[he] at this
   exact this
  have h2:=h;unfold uk at h2;rw[e1] at h2;have hlt:i*sz+j<l.length*sz:=by
   have:(i+1)*sz≤l.length*sz:=Nat.mul_le_mul_right _ hi;rw[Nat.succ_mul] at this;omega
  rw[h2.cellAt _ hlt,zi4 enc sz he l i j hi hj]
  exact hu
theorem uk.same (h:uk W E sz enc v l) (hs:∀g,v.ownBlock=some g→W'.heap[g]? = W.heap[g]?):uk W' E sz enc v l:=by
 refine⟨h.1,?_⟩
 rcases h.2 with hn|⟨b,cap,cur,rfl,h1,hb,h3⟩
 ·exact .inl hn
 ·exact .inr ⟨b,cap,cur,rfl,h1,(hs b (by simp[Value.ownBlock])).trans hb,h3⟩
theorem uk.lt (h:uk W E sz enc v l) {g:Nat} (hg:v.ownBlock=some g):g<W.heap.size:=(World.ownsRow.lt h g hg).2
theorem uk.kind (h:uk W E sz enc v l) {g:Nat} (hg:v.ownBlock=some g):∃c,W.heap[g]? = some (.cells c E (0,0)):=by
 rcases h.2 with ⟨rfl,_⟩|⟨b,cap,cur,rfl,_,hb,_⟩
 ·simp[Value.ownBlock] at hg
 ·simp[Value.ownBlock] at hg
  subst hg
  exact⟨_,hb⟩
theorem uk.grown (h:uk W E sz enc v l) {r:Option Nat} (hg:W.grownBy W' r) (hr:∀g,v.ownBlock=some g→r≠some g):uk W' E sz enc v l:=
 h.same fun g hg2=>hg.block g (h.lt hg2) (fun e=>hr g hg2 e.symm)
end
theorem zb5 {W:World} {α:Type} {E E':TypeId} {sz:Nat} {enc:α→List Value} {v:Value} {l:List α} (h:uk W E sz enc v l) {g:Nat} {c:Array Value} {fr:Nat × Nat} (hg:W.heap[g]? = some (.cells c E' fr)) (hne:E≠E'):v.ownBlock≠some g:=by
 intro e;obtain⟨c',h2⟩:=h.kind e;rw[hg] at h2
 cases h2
 exact hne rfl
def ze6 {α:Type} (W:World) (enc:α→List Value) (y:Value) (m:List α):Prop:=∃p cap,y = .slice p m.length cap∧(m = []∨∃a,p=some a∧∀j u,(m.flatMap enc)[j]? = some u→W.cell? (a.add j)=some u)
def zcy {α:Type} (W:World) (E:TypeId) (sz:Nat) (enc:α→List Value) (v:Value) (l:List α) (v':Value) (w':World):Prop:=
 uk w' E sz enc v' l∧W.grownBy w' v.ownBlock∧(v'.ownBlock=v.ownBlock∨v'.ownBlock=some W.heap.size)
section
variable {α : Type} {P : Program} {W : World} {E : TypeId} {sz : Nat} {enc : α → List Value} {v y : Value} {l m : List α}
theorem zgk (he:∀x,(enc x).length=sz) (h1c:∀x,∀u∈enc x,u.oneCell'=true) (t ty:TypeId) (i:TypeInfo) (z:Value) (bytes:Nat) (ht:P.underlying t=some (.slice E)) (hi:P.info? E=some i) (hz:i.zero=some z)
  (hsize:i.size=sz) (hby:i.bytes=bytes) (hzs:z.cells.size=sz) (hsz:0<sz) (hb:bytes≤1000) (h:uk W E sz enc v l) (hy:ze6 W enc y m) (hl:l.length+m.length≤1000000000) :
  ∃v' w',(Builtin.append_ #[t,t] ty #[v,y]).run P W = .ok v' w'∧zcy W E sz enc v (l++m) v' w':=by
 obtain⟨p,cap,rfl,hc⟩:=hy
 cases p with
 | none=>
  have hm:m = []:=by
   rcases hc with h0|⟨a,ha,_⟩
   ·exact h0
   ·cases ha
  subst hm;have e0:(Builtin.append_ #[t,t] ty #[v,.slice none 0 cap]).run P W = .ok v W:=by
   rcases h.2 with ⟨rfl,h0⟩|⟨g,c,cur,rfl,_,_,hnc,_⟩
   ·simp[Builtin.append_,run_underlying ht,sizeOf,typeInfo,hi,Builtin.lenOf,Builtin.firstCells,h0]
   ·simp[Builtin.append_,run_underlying ht,sizeOf,typeInfo,hi,Builtin.lenOf,Builtin.firstCells,hnc,storeCells]
  exact⟨v,W,e0,by rw[List.append_nil];exact h,⟨rfl,rfl,rfl,Nat.le_refl _,fun _ _ _=>rfl⟩,Or.inl rfl⟩
 | some a=>
  have hnews:∀j u,(m.flatMap enc)[j]? = some u→W.cell? (a.add j)=some u:=by
   rcases hc with h0|⟨a',ha,hc⟩
   ·subst h0;intro j u hu;simp at hu
   ·cases ha;exact hc
  have hbm:(l.length+m.length)*bytes≤140737488355328:=Nat.le_trans (Nat.mul_le_mul_left _ hb) (by omega)
  obtain⟨v',w',hr,h2,h3,h4,h5⟩:=run_append_own_at (P:=P) W 0 t ty E i z sz bytes ht hi hz hsize hby hzs hsz v l.length (l.flatMap enc) h a m.length cap (m.flatMap enc) (zdb enc sz he m) hnews (fun u hu=>by
   obtain⟨x,_,hx⟩:=List.mem_flatMap.1 hu
   exact h1c x u hx) (by unfold maxLen;omega) hbm (Nat.zero_le _)
  refine⟨v',w',hr,?_,h3,h5⟩;unfold uk;rw[List.length_append,List.flatMap_append]
  exact h2
theorem Vx (w:World) {ops:Array Oper} {rest:List Oper} {o:Oper} {a:Act} {Q:Exit→Act→World→Prop} (hgd:o.guard=none) (s x:Operand) (t:TypeId) (hop:o.op = .call { callee:=.builtin .append,args:=#[s,x],argTypes:=#[t,t] })
  (he:∀x,(enc x).length=sz) (h1c:∀x,∀u∈enc x,u.oneCell'=true) (i:TypeInfo) (z:Value) (bytes:Nat) (ht:P.underlying t=some (.slice E)) (hi:P.info? E=some i) (hz:i.zero=some z)
  (hsize:i.size=sz) (hby:i.bytes=bytes) (hzs:z.cells.size=sz) (hsz:0<sz) (hb:bytes≤1000) (hs:a.eval s=v) (h:uk w E sz enc v l) (hx:a.eval x=y) (hy:ze6 w enc y m) (hl:l.length+m.length≤1000000000) (n:Nat) (hn:l.length+m.length=n)
  (hK:∀p' cap' w',zcy w E sz enc v (l++m) (.slice p' n cap') w'→wpList P ops Q rest (a.put o.dst (.slice p' n cap')) w'):wpList P ops Q (o :: rest) a w:=by
 obtain⟨v',w',hr,h1⟩:=zgk (P:=P) he h1c t o.type i z bytes ht hi hz hsize hby hzs hsz hb h hy hl;obtain⟨p',cap',rfl,-,-⟩:=h1.1.form;rw[List.length_append,hn] at hr h1
 exact Go.Lib.wpList_append_run w hgd s x t t hop v y hs hx _ _ hr (hK p' cap' w' h1)
theorem zad {ops:Array Oper} {o:Oper} {a:Act} {w:World} {K:Act→World→Prop} {Q:Exit→Act→World→Prop} {F:Prop} (hgd:o.guard=none) (s x:Operand) (t:TypeId) (hop:o.op=Op.call { callee:=Callee.builtin Builtin.append,args:=#[s,x],argTypes:=#[t,t] })
  (he:∀x,(enc x).length=sz) (h1c:∀x,∀u∈enc x,u.oneCell'=true) (i:TypeInfo) (z:Value) (bytes:Nat) (ht:P.underlying t=some (.slice E)) (hi:P.info? E=some i) (hz:i.zero=some z)
  (hsize:i.size=sz) (hby:i.bytes=bytes) (hzs:z.cells.size=sz) (hsz:0<sz) (hb:bytes≤1000) (hs:a.eval s=v) (h:uk w E sz enc v l) (hx:a.eval x=y) (hy:ze6 w enc y m) (hl:l.length+m.length≤1000000000) (n:Nat) (hn:l.length+m.length=n)
  (hK:∀p' cap' w',zcy w E sz enc v (l++m) (.slice p' n cap') w'→K (a.put o.dst (.slice p' n cap')) w'):if Region.wanted o (yielded ops a.tmps)=true then Oper.wp P o a w K Q else F:=by
 have hw:Region.wanted o (yielded ops a.tmps)=true:=by simp[Region.wanted,hgd]
 rw[if_pos hw];obtain⟨v',w',hr,h1⟩:=zgk (P:=P) he h1c t o.type i z bytes ht hi hz hsize hby hzs hsz hb h hy hl;obtain⟨p',cap',rfl,-,-⟩:=h1.1.form;rw[List.length_append,hn] at hr h1
 exact Go.Lib.wp_append_run w s x t t hop v y hs hx _ _ hr (hK p' cap' w' h1)
end
@[go_sem] theorem u32_geq31 (t:TypeId) (x:BitVec 32):binOp .geq t (vo x) (.int .u32 2147483648)=pure (.bool x.msb):=by
 unfold vo;rw[binOp_geq]
 congr 2
 rw[BitVec.msb_eq_decide];have e:((x.toNat:Int)≥2147483648)=(2 ^ (32-1)≤x.toNat):=by
  apply propext
  omega
 simp only[e]
@[go_sem] theorem u32_mul2 (t:TypeId) (x:BitVec 32):binOp .mul t (vo x) (.int .u32 2)=pure (vo (x <<< 1)):=by
 unfold vo;rw[binOp_mul];have h:Op.intArith .mul .u32 (x.toNat:Int) 2=pure (.int .u32 (IntKind.u32.wrap ((x.toNat:Int)*2))):=rfl;rw[h,BitVec.toNat_shiftLeft,Nat.shiftLeft_eq,IntKind.wrap_u32];simp
@[go_sem] theorem u32_addc (t:TypeId) (x:BitVec 32) (n:Int):binOp .add t (vo x) (.int .u32 n)=pure (vo (x+BitVec.ofInt 32 n)):=by
 unfold vo;rw[binOp_add];have h:Op.intArith .add .u32 (x.toNat:Int) n=pure (.int .u32 (IntKind.u32.wrap ((x.toNat:Int)+n))):=rfl;rw[h,BitVec.toNat_add,IntKind.wrap_u32,BitVec.toNat_ofInt]
 congr 2
 omega
@[go_sem] theorem u8_shr (t:TypeId) (x:BitVec 8) (yk:IntKind) (n:Int) (h:0≤n) (h2:n<8):binOp .shr t (u8V x) (.int yk n)=pure (u8V (x >>> n.toNat)):=by
 unfold u8V;rw[binOp_shr,shift_shr_any _ _ _ _ h];have e:min n.toNat IntKind.u8.bits=n.toNat:=by simp[IntKind.bits];omega
 rw[e,BitVec.toNat_ushiftRight,Nat.shiftRight_eq_div_pow];simp
@[go_sem] theorem u8_and (t:TypeId) (x:BitVec 8) (n:Int):binOp .and t (u8V x) (.int .u8 n)=pure (u8V (x &&& BitVec.ofInt 8 n)):=by
 unfold u8V;rw[binOp_and];have h:Op.intBits .and .u8 (x.toNat:Int) n=pure (.int .u8 (IntKind.u8.wrap ((BitVec.ofInt 8 (x.toNat:Int) &&& BitVec.ofInt 8 n).toNat:Int))):=rfl;have e:BitVec.ofInt 8 (x.toNat:Int)=x:=by simp
 rw[h,e,IntKind.wrap_u8];have:=(x &&& BitVec.ofInt 8 n).isLt
 congr 2
 omega
@[go_sem] theorem u8_eql (t:TypeId) (x:BitVec 8) (n:Int) (h:0≤n) (h2:n<256):binOp .eql t (u8V x) (.int .u8 n)=pure (.bool (x == BitVec.ofInt 8 n)):=by
 unfold u8V;rw[binOp_eql]
 congr 2
 rw[Bool.eq_iff_iff,beq_iff_eq,beq_iff_eq]
 constructor
 ·intro h;rw[←h];simp
 ·rintro rfl
  rw[BitVec.toNat_ofInt];omega
@[go_sem] theorem u8_guard (t:TypeId) (x y:Operand) (a:BitVec 8) (n:Int):eqGuard .eql t x y (u8V a) (.int .u8 n)=pure ():=rfl
@[go_sem] theorem u32_shr31 (t:TypeId) (x:BitVec 32) (yk:IntKind) (m:Nat) (h:m<32):binOp .shr t (vo x) (.int yk (31-(m:Int)))=pure (vo (x >>> (31-m))):=by
 rw[u32_shr _ _ _ _ (by omega) (by omega)]
 congr 3
 omega
def NoF (xs:List Bool) (k:Nat):Prop:=∀j,j<k→xs[j]?≠some false
set_option maxRecDepth 100000 in
theorem zfl {W:World} {tb:Nat} {xs:List Bool} {fr:Nat × Nat} (h:W.heap[tb]? = some (.cells (um xs).toArray 4 fr)) (hl:xs.length≤1000000) :
  Calls Tryz.prog 217 #[.slice (some ⟨tb,0,none⟩) xs.length xs.length,.bool false] W fun e w'=>∃r:Int,e = .returned (.int .i64 r)∧(0≤r↔false∈xs)∧w'=W:=by
 have HR:Hid (∀k y,xs[k]? = some y→W.cell? ⟨tb,k,none⟩=some (.bool y)):=(fun k y hy=>by rw[zh h];simp[um,hy])
 have HP:Hid (∀r:Int,(∃j:Nat,r=j∧xs[j]? = some false)→(0≤r↔false∈xs)):=(show ∀_,_→_ from fun r ⟨j,h1,h2⟩=>⟨fun _=>List.mem_of_getElem? h2,fun _=>by omega⟩)
 have HNP:Hid (NoF xs xs.length→((0:Int)≤-1↔false∈xs)):=(show _→_ from fun hn=>⟨fun h=>absurd h (by omega),fun h=>by
  obtain⟨j,hj,e⟩:=List.getElem_of_mem h
  exact absurd (by rw[List.getElem?_eq_getElem hj,e]) (hn j hj)⟩)
 clear h;generalize hq:xs.length=q at *;have HQ:=zd hq;clear hq
 go_enter Tryz.func217,Tryz.ntmps217
 go_wp2
 go_loopw [8] (fun i wr=>∃k:Nat,k≤q∧i = .int .i64 k∧Hid (NoF xs k)∧wr=W) (fun i _=>q-(intOf i).toNat)
 case atStart=>exact⟨0,Nat.zero_le _,rfl,(show NoF _ _ from fun j hj=>absurd hj (Nat.not_lt_zero _)),rfl⟩
 case round=>
  obtain⟨k,hk,rfl,hno,hw⟩:=hrel;obtain rfl:W=wr:=hw.symm
  rcases Nat.lt_or_ge k q with hlt|hge
  ·obtain⟨y,hy⟩:∃y,xs[k]? = some y:=⟨_,List.getElem?_eq_getElem (by rw[HQ.out];exact hlt)⟩
   have cy:=HR.out k y hy;have HY:=zd hy;clear hy
   cases y
   ·have HE:=zd (HP.out k ⟨k,rfl,HY.out⟩)
    go_wp2
    go_ret
    exact⟨_,rfl,HE.out,rfl⟩
   ·have HN:Hid (NoF xs (k+1)):=(show NoF _ _ from fun j hj=>by
     by_cases e2:j=k
     ·subst e2;rw[HY.out];intro h;cases h
     ·exact hno.out j (by omega))
    go_wp2
    go_roundw
    case rel=>exact⟨k+1,by omega,by go_num,HN,by first|rfl|trivial⟩
    case measure=>simp[intOf];omega
  ·obtain rfl:k=q:=by omega
   have HE:=zd (HNP.out hno.out);go_wp2
   go_ret
   exact⟨_,rfl,HE.out,rfl⟩
set_option maxRecDepth 100000 in
theorem zbl {W:World} {tb:Nat} {xs:List Bool} {fr:Nat × Nat} (h:W.heap[tb]? = some (.cells (um xs).toArray 4 fr)) (hl:xs.length≤1000000) :
  Calls Tryz.prog 174 #[.slice (some ⟨tb,0,none⟩) xs.length xs.length,.bool false] W fun e w'=>e = .returned (.bool (xs.contains false))∧w'=W:=by
 have HI:=zd (zfl h hl);have HC:Hid (∀r:Int,(0≤r↔false∈xs)→decide (0≤r)=xs.contains false):=(show ∀_,_→_ from fun r hr=>by
  rw[Bool.eq_iff_iff];simp[hr])
 clear h
 go_enter Tryz.func174,Tryz.ntmps174
 go_wp2_with (go_at_call 217;refine HI.out.mono ?_;rintro e w1 ⟨r,rfl,hr,h5⟩;obtain rfl:W=w1:=h5.symm;have HE:=zd (HC.out r hr);clear hr)
 go_ret
 exact⟨congrArg (fun b=>Ending.returned (Value.bool b)) HE.out,rfl⟩
def ym (c:Nat × Value × List Int):List Value:=[.int .i64 (c.1:Int),c.2.1]
structure Zq (W:World) (rp:Nat→Prop) (pb ab tb:Nat) (cs:List (Nat × Value × List Int)) (r:xm):Prop where
 box:W.heap[pb]? = some (.cells #[.slice (some ⟨ab,0,none⟩) r.there.length r.there.length,.slice (some ⟨tb,0,none⟩) r.there.length r.there.length] 162 (0,0))
 at_:W.heap[ab]? = some (.cells (cs.flatMap ym).toArray 146 (0,0))
 there:W.heap[tb]? = some (.cells (um r.there).toArray 4 (0,0))
 cells:r.cells=cs.map fun c=>(c.1,c.2.2)
 rows:∀c∈cs,ye rp W c.2.1 (zi c.2.2)
 len:cs.length=r.there.length
 few:r.there.length≤1000000
theorem Zq.kept {W W':World} {rp:Nat→Prop} {pb ab tb:Nat} {cs:List (Nat × Value × List Int)} {r:xm} (h:Zq W rp pb ab tb cs r) (h1:W'.heap[pb]? = W.heap[pb]?) (h2:W'.heap[ab]? = W.heap[ab]?) (h3:W'.heap[tb]? = W.heap[tb]?) (h4:∀k,rp k→W'.heap[k]? = W.heap[k]?):Zq W' rp pb ab tb cs r:=
 ⟨h1.trans h.box,h2.trans h.at_,h3.trans h.there,h.cells,fun c hc=>(h.rows c hc).turn h4,h.len,h.few⟩
theorem Zq.lt {W:World} {rp:Nat→Prop} {pb ab tb:Nat} {cs:List (Nat × Value × List Int)} {r:xm} (h:Zq W rp pb ab tb cs r):pb<W.heap.size∧ab<W.heap.size∧tb<W.heap.size:=
 ⟨(Array.getElem?_eq_some_iff.1 h.box).1,(Array.getElem?_eq_some_iff.1 h.at_).1,(Array.getElem?_eq_some_iff.1 h.there).1⟩
set_option maxRecDepth 100000 in
theorem rwhole {W:World} {rp:Nat→Prop} {pb ab tb:Nat} {cs:List (Nat × Value × List Int)} {r:xm} (h:Zq W rp pb ab tb cs r):Calls Tryz.prog 93 #[.pointer (some ⟨pb,0,none⟩)] W fun e w'=>e = .returned (.bool r.whole)∧w'=W:=by
 have HC:=zd (zbl h.there h.few);have c1:W.cell? ⟨pb,1,none⟩=some (.slice (some ⟨tb,0,none⟩) r.there.length r.there.length):=(zh h.box 1).trans rfl;have HW:Hid (r.whole = !r.there.contains false):=(show _=_ from rfl)
 clear h;generalize r.there.contains false=z at *
 go_enter Tryz.func93,Tryz.ntmps93
 go_wp2_with (go_at_call 174;refine HC.out.mono ?_;rintro e w1 ⟨rfl,h5⟩;obtain rfl:W=w1:=h5.symm)
 go_ret
 exact⟨congrArg (fun b=>Ending.returned (Value.bool b)) HW.out.symm,rfl⟩
end Go.Proofs.YtbcbhlfjgobejaaGreat
