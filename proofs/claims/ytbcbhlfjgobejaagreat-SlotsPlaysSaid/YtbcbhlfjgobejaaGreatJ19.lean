/- A map of typed pairs as the shelf's contracts have it. Conditions: none, or as the theorems say. -/
import Derived.Test.YtbcbhlfjgobejaaGreatJ1
import Derived.Shelf.SlIterI.Nil
import Derived.Shelf.SlIter.Nil
import Derived.Sort.KeysCollected
import Derived.Shelf.SortM.Plain
import Derived.Shelf.SortM.SortNone
import Derived.Ground.GgzProg
import Derived.Ground.SlgmProg
import Derived.Shelf.SlGeneric
import Derived.Test.YtbcbhlfjgobejaaGreatProg
import Derived.Test.YtbcbhlfjgobejaaGreatJ18
import Derived.Deep.OwnRows
import Derived.Lib.SlBytesConst
import Derived.Maps.AppendAt
import Derived.Deep.RegionLaw
import Derived.StillTailTactics
import Derived.Test.YtbcbhlfjgobejaaGreatJ17
set_option linter.unusedSimpArgs false
set_option linter.unusedVariables false
namespace Go.Sf
set_option maxHeartbeats 200000000
open Go.MapKept Go.RowKit Go.Maps
open Go.WideElems (Fit rd rg)
def za4:Value→Option (DataW Unit × List MemPlace):=fun _=>some (.nil,[])
theorem yg.owns {P:Program} {k:TypeId} {K V:Type} {ek:K→Value} {ev:V→Value} {w:World} {b:Nat} {m:List (K × V)} (h:yg w b ek ev m) (kl:K→Lit) (hk:∀p∈m,keyOf P k (ek p.1)=some (kl p.1)) (hl:m.length≤maxLen) :
  ∃E,w.ownsMap P k za4 b m.length (.map E)∧E.Perm (m.map fun p=>(kl p.1,(DataW.nil:DataW Unit))):=by
 obtain⟨es,clock,hb,hs,he⟩:=h;have hsz:es.size=m.length:=by have:=congrArg List.length he;simpa using this
 have hrd:∀x∈es.toList,∀p∈m,x.key=ek p.1→rd P k za4 x=some (kl p.1,.nil):=fun x hx p hp e=>by
  unfold rd;rw[e,hk p hp]
  rfl
 refine⟨(es.toList.map (rg P k za4)).foldr DataW.insert [],⟨es,clock,hb,⟨by omega,hs,fun x hx=>?_⟩,by omega,rfl⟩,(WideShapes.sorted_perm _).trans ?_⟩
 ·obtain⟨p,hp,e1,_⟩:=Zy he x hx
  exact⟨_,hrd x hx p hp e1⟩
 ·have:es.toList.map (rg P k za4)=m.map fun p=>(kl p.1,(DataW.nil:DataW Unit)):=by
   apply List.ext_getElem?
   intro i;simp only[List.getElem?_map]
   cases hi:es.toList[i]? with
   | none=>
    have:m[i]? = none:=by
     rw[List.getElem?_eq_none_iff] at hi ⊢;simpa[hsz] using hi
    rw[this];rfl
   | some x=>
    obtain⟨p,hp,e1,_⟩:=Xe he hi;rw[hp];simp only[Option.map_some];unfold rg;rw[hrd x (List.mem_of_getElem? hi) p (List.mem_of_getElem? hp) e1]
    rfl
  rw[this]
end Go.Sf
namespace Go.Proofs
open Go.Shelf
def Tryz.keysI_ren:Go.Shelf.Ren:=⟨fun|7=>106|10=>178|n=>n,fun|23=>129|26=>2|3=>158|28=>181|0=>0|27=>180|33=>271|4=>4|n=>n,fun|n=>n⟩
theorem Tryz.keysI:Go.Proofs.SlLaysZI.n7 Tryz.prog Tryz.keysI_ren:={
 mixed:=by kernel_rfl
 f7:=⟨Tryz.f106.name,by decide,Tryz.func106.trans (congrArg some (by kernel_rfl))⟩
 f10:=⟨Tryz.f178.name,by decide,Tryz.func178.trans (congrArg some (by kernel_rfl))⟩
 t0:=Tryz.underlying0
 a0:=Tryz.isAgg0
 z0:=Tryz.sizeOf0
 v0:=Tryz.zeroValue0
 t4:=Tryz.underlying4
 a4:=Tryz.isAgg4
 z4:=Tryz.sizeOf4
 v4:=Tryz.zeroValue4
 t23:=Tryz.underlying129
 a23:=Tryz.isAgg129
 z23:=Tryz.sizeOf129
 v23:=Tryz.zeroValue129
 t26:=Tryz.underlying2
 a26:=Tryz.isAgg2
 z26:=Tryz.sizeOf2
 v26:=Tryz.zeroValue2
 t27:=Tryz.underlying180
 a27:=Tryz.isAgg180
 z27:=Tryz.sizeOf180
 v27:=Tryz.zeroValue180
 t28:=Tryz.underlying181
 a28:=Tryz.isAgg181
 z28:=Tryz.sizeOf181
 v28:=Tryz.zeroValue181
 t33:=Tryz.underlying271
 a33:=Tryz.isAgg271
 z33:=Tryz.sizeOf271
 v33:=Tryz.zeroValue271 }
def Tryz.sortedI_ren:Go.Shelf.Ren:=⟨fun|6=>105|8=>177|9=>131|11=>219|13=>191|12=>190|23=>234|24=>235|14=>225|15=>226|16=>227|17=>228|18=>229|19=>230|20=>231|21=>232|22=>233|25=>258|26=>259|27=>260|28=>261|29=>262|30=>172|31=>276|n=>n,fun|26=>2|28=>181|24=>40|0=>0|3=>3|37=>285|48=>172|50=>51|4=>4|40=>319|39=>318|45=>324|5=>5|9=>9|51=>342|55=>345|57=>357|58=>358|33=>271|n=>n,fun|n=>n⟩
theorem Tryz.sortedI:Go.Proofs.SlLaysZI.n6 Tryz.prog Tryz.sortedI_ren:={
 mixed:=by kernel_rfl
 f6:=⟨Tryz.f105.name,by decide,Tryz.func105.trans (congrArg some (by kernel_rfl))⟩
 f8:=⟨Tryz.f177.name,by decide,Tryz.func177.trans (congrArg some (by kernel_rfl))⟩
 f11:=⟨Tryz.f219.name,by decide,Tryz.func219.trans (congrArg some (by kernel_rfl))⟩
 t0:=Tryz.underlying0
 a0:=Tryz.isAgg0
 z0:=Tryz.sizeOf0
 v0:=Tryz.zeroValue0
 t24:=Tryz.underlying40
 a24:=Tryz.isAgg40
 z24:=Tryz.sizeOf40
 v24:=Tryz.zeroValue40
 t26:=Tryz.underlying2
 a26:=Tryz.isAgg2
 z26:=Tryz.sizeOf2
 v26:=Tryz.zeroValue2
 t28:=Tryz.underlying181
 a28:=Tryz.isAgg181
 z28:=Tryz.sizeOf181
 v28:=Tryz.zeroValue181
 i26:=by kernel_rfl }
def Tryz.sortI_ren:Go.Shelf.Ren:=⟨fun|5=>131|8=>191|7=>190|19=>234|20=>235|10=>225|11=>226|12=>227|13=>228|14=>229|15=>230|16=>231|17=>232|18=>233|30=>258|31=>259|32=>260|33=>261|34=>262|35=>172|40=>276|n=>n,fun|23=>40|25=>2|3=>3|32=>285|22=>40|0=>0|44=>172|46=>51|4=>4|36=>319|35=>318|41=>324|5=>5|9=>9|53=>342|57=>345|63=>357|64=>358|n=>n,fun|n=>n⟩
theorem Tryz.sortI:Go.Proofs.SlLaysM.n5 Tryz.prog Tryz.sortI_ren:={
 mixed:=by kernel_rfl
 f5:=⟨Tryz.f131.name,by decide,Tryz.func131.trans (congrArg some (by kernel_rfl))⟩
 f7:=⟨Tryz.f190.name,by decide,Tryz.func190.trans (congrArg some (by kernel_rfl))⟩
 f8:=Tryz.func191.trans (congrArg some (by kernel_rfl))
 f10:=⟨Tryz.f225.name,by decide,Tryz.func225.trans (congrArg some (by kernel_rfl))⟩
 f11:=⟨Tryz.f226.name,by decide,Tryz.func226.trans (congrArg some (by kernel_rfl))⟩
 f12:=⟨Tryz.f227.name,by decide,Tryz.func227.trans (congrArg some (by kernel_rfl))⟩
 f13:=⟨Tryz.f228.name,by decide,Tryz.func228.trans (congrArg some (by kernel_rfl))⟩
 f14:=⟨Tryz.f229.name,by decide,Tryz.func229.trans (congrArg some (by kernel_rfl))⟩
 f15:=⟨Tryz.f230.name,by decide,Tryz.func230.trans (congrArg some (by kernel_rfl))⟩
 f16:=⟨Tryz.f231.name,by decide,Tryz.func231.trans (congrArg some (by kernel_rfl))⟩
 f17:=⟨Tryz.f232.name,by decide,Tryz.func232.trans (congrArg some (by kernel_rfl))⟩
 f18:=⟨Tryz.f233.name,by decide,Tryz.func233.trans (congrArg some (by kernel_rfl))⟩
 f19:=Tryz.func234.trans (congrArg some (by kernel_rfl))
 f20:=Tryz.func235.trans (congrArg some (by kernel_rfl))
 f30:=⟨Tryz.f258.name,by decide,Tryz.func258.trans (congrArg some (by kernel_rfl))⟩
 f31:=Tryz.func259.trans (congrArg some (by kernel_rfl))
 f32:=Tryz.func260.trans (congrArg some (by kernel_rfl))
 f33:=⟨Tryz.f261.name,by decide,Tryz.func261.trans (congrArg some (by kernel_rfl))⟩
 f34:=⟨Tryz.f262.name,by decide,Tryz.func262.trans (congrArg some (by kernel_rfl))⟩
 f35:=⟨Tryz.f172.name,by decide,Tryz.func172.trans (congrArg some (by kernel_rfl))⟩
 f40:=⟨Tryz.f276.name,by decide,Tryz.func276.trans (congrArg some (by kernel_rfl))⟩
 t0:=Tryz.underlying0
 a0:=Tryz.isAgg0
 z0:=Tryz.sizeOf0
 v0:=Tryz.zeroValue0
 t3:=Tryz.underlying3
 a3:=Tryz.isAgg3
 z3:=Tryz.sizeOf3
 v3:=Tryz.zeroValue3
 t4:=Tryz.underlying4
 a4:=Tryz.isAgg4
 z4:=Tryz.sizeOf4
 v4:=Tryz.zeroValue4
 t5:=Tryz.underlying5
 a5:=Tryz.isAgg5
 z5:=Tryz.sizeOf5
 v5:=Tryz.zeroValue5
 t9:=Tryz.underlying9
 a9:=Tryz.isAgg9
 z9:=Tryz.sizeOf9
 v9:=Tryz.zeroValue9
 t22:=Tryz.underlying40
 a22:=Tryz.isAgg40
 z22:=Tryz.sizeOf40
 v22:=Tryz.zeroValue40
 t23:=Tryz.underlying40
 a23:=Tryz.isAgg40
 z23:=Tryz.sizeOf40
 v23:=Tryz.zeroValue40
 t25:=Tryz.underlying2
 a25:=Tryz.isAgg2
 z25:=Tryz.sizeOf2
 v25:=Tryz.zeroValue2
 t32:=Tryz.underlying285
 a32:=Tryz.isAgg285
 z32:=Tryz.sizeOf285
 v32:=Tryz.zeroValue285
 t35:=Tryz.underlying318
 a35:=Tryz.isAgg318
 z35:=Tryz.sizeOf318
 v35:=Tryz.zeroValue318
 t36:=Tryz.underlying319
 a36:=Tryz.isAgg319
 z36:=Tryz.sizeOf319
 v36:=Tryz.zeroValue319
 t41:=Tryz.underlying324
 a41:=Tryz.isAgg324
 z41:=Tryz.sizeOf324
 v41:=Tryz.zeroValue324
 t44:=Tryz.underlying172
 a44:=Tryz.isAgg172
 z44:=Tryz.sizeOf172
 v44:=Tryz.zeroValue172
 t46:=Tryz.underlying51
 a46:=Tryz.isAgg51
 z46:=Tryz.sizeOf51
 v46:=Tryz.zeroValue51
 t53:=Tryz.underlying342
 a53:=Tryz.isAgg342
 z53:=Tryz.sizeOf342
 v53:=Tryz.zeroValue342
 t57:=Tryz.underlying345
 a57:=Tryz.isAgg345
 z57:=Tryz.sizeOf345
 v57:=Tryz.zeroValue345
 t63:=Tryz.underlying357
 a63:=Tryz.isAgg357
 z63:=Tryz.sizeOf357
 v63:=Tryz.zeroValue357
 t64:=Tryz.underlying358
 a64:=Tryz.isAgg358
 z64:=Tryz.sizeOf358
 v64:=Tryz.zeroValue358 }
end Go.Proofs
namespace Go.Proofs.YtbcbhlfjgobejaaGreat
open Go.RowKit Go.Sf Go.Shelf Go.Maps Go.Sort
theorem sortsI (m:Nat):AnyZI.SortsIn Tryz.prog Tryz.sortedI_ren Fence.wide m:=
 ⟨fun blk off cap ss W hH hblk hsz=>callsIn_wide.2 (AnyM.slices_Sort_int Tryz.sortI blk off cap ss W hH hblk hsz),
 fun p cap W=>callsIn_wide.2 (AnyM.slices_Sort_int_none Tryz.sortI p cap W)⟩
theorem zaf {w w':World} (h:Below w.heap.size w w'):w.grownBy w' none:=⟨h.os,h.tape,h.output,h.size,fun k hk _=>h.block k hk⟩
theorem zjr (mb:Option Nat) (W:World):Calls Tryz.prog 106 #[.map mb] W fun e w'=>
  e = .returned (.func (.func 178) #[] #[.pointer (some ⟨W.heap.size,0,none⟩)])∧w'=W.alloc (.cells #[.map mb] 129):=
 callsIn_wide.1 (AnyZI.keys_in Tryz.keysI Fence.wide 5 trivial rfl mb W)
theorem zej {l:List Int} {E:List (Lit × DataW Unit)} (h:E.Perm (l.map fun n=>(Lit.int .i64 n,(DataW.nil:DataW Unit)))):(intKeys (.map E)).Perm l:=by
 have h1:=h.map (fun p=>(match p.1 with | .int _ x=>x|_=>0:Int))
 have h2:(l.map fun n=>(Lit.int .i64 n,(DataW.nil:DataW Unit))).map (fun p=>(match p.1 with | .int _ x=>x|_=>0:Int))=l:=by
  rw[List.map_map];simp[Function.comp_def]
 rw[h2] at h1
 exact h1
def Ints (w w':World) (v:Value) (l:List Int):Prop:=w'.ownsRow w.heap.size 2 1 v l.length (l.map (Value.int .i64))∧(v = .slice none 0 0↔l = [])∧w.grownBy w' none
theorem zgv {W:World} {mb:Nat} {m:List (Int × (Value × Value))} (h:yg W mb (Value.int .i64) Xj m) (hr:∀n∈m.map (·.1),(Lit.int .i64 n).wf=true) (hl:m.length≤1000000) (Bm:Nat) (hBm:Bm<W.heap.size) (hm:W.cell? ⟨Bm,0,none⟩=some (.map (some mb))) :
  Calls Tryz.prog 105 #[.func (.func 178) #[] #[.pointer (some ⟨Bm,0,none⟩)]] W
   fun e w'=>∃v,e = .returned v∧Ints W w' v ((m.map (·.1)).mergeSort fun x y=>decide (x≤y)):=by
 obtain⟨E,hown,hE⟩:=yg.owns (P:=Tryz.prog) (k:=2) h (fun n=>Lit.int .i64 n) (fun p hp=>by
  exact keyOf_int_mk Tryz.underlying2 (hr p.1 (List.mem_map.2 ⟨p,hp,rfl⟩))) (by simp[maxLen];omega)
 have hE':E.Perm ((m.map (·.1)).map fun n=>(Lit.int .i64 n,(DataW.nil:DataW Unit))):=by
  rw[List.map_map];exact hE
 have hkeys:=zej hE';have hsz:Maps.size (.map E:DataW Unit)=m.length:=by
  have:=hE'.length_eq;simpa[Maps.size] using this
 have hbl:=hown.lt;have hseq:SeqGives Fence.wide 2 Tryz.prog 178 #[.pointer (some ⟨Bm,0,none⟩)] encZ (fun ss=>ss.Perm (intKeys (.map E:DataW Unit))) (Maps.size (.map E:DataW Unit)) W:=
  AnyZI.keys_gives (ρ:=Tryz.keysI_ren) { Tryz.keysI with } Fence.wide _ trivial rfl (by omega) Bm mb _ (.map E) _ hBm hm hown
 have cS:=AnyZI.sorted_in Tryz.sortedI Fence.wide 5 trivial trivial trivial trivial rfl (by omega) (sortsI _) (enters_of Tryz.func131 (by kernel_rfl) rfl) 178 #[.pointer (some ⟨Bm,0,none⟩)] trivial (enters_of Tryz.func178 (by kernel_rfl) rfl) _ _ (by rw[hsz];simp[maxLen];omega) (by rw[hsz];omega) _ hseq
 refine(callsIn_wide.1 cS).mono ?_;rintro e w' ⟨v,ss,rfl,hS,hrow,hnil,hb⟩;have hp:ss.Perm (m.map (·.1)):=hS.trans hkeys
 have hm:(ss.mergeSort fun x y=>decide (x≤y))=((m.map (·.1)).mergeSort fun x y=>decide (x≤y)):=mergeSort_of_perm_i hp
 refine⟨v,rfl,?_,?_,zaf hb⟩
 ·have h1:ss.length=((m.map (·.1)).mergeSort fun x y=>decide (x≤y)).length:=by rw[←hm,List.length_mergeSort]
  rw[h1,hm] at hrow
  exact hrow
 ·rw[hnil,←hm]
  constructor
  ·intro h0;rw[h0];simp
  ·intro h0
   have:=congrArg List.length h0;rw[List.length_mergeSort] at this
   exact List.eq_nil_of_length_eq_zero (by simpa using this)
section
variable {own : Nat → Prop} {W W' : World} {st db mb tb : Nat} {rv : Int → Value × Value} {rb : Nat → Prop} {S : Sto}
set_option maxRecDepth 100000 in
theorem zm3 (h:SAt own W st db mb tb rv rb S) (hk:∀r∈S.recs,1≤r.1∧r.1≤4611686018427387904) (hl:S.recs.length≤1000000):Calls Tryz.prog 26 #[.pointer (some ⟨st,0,none⟩)] W fun e w'=>W.grownBy w' none∧∃v,e = .returned v∧w'.ownsRow W.heap.size 2 1 v S.recs.length (((S.recs.map (·.1)).mergeSort fun x y=>decide (x≤y)).map (Value.int .i64)):=by
 obtain⟨c0,c1,c2,c3,c4,y⟩:=h.cells;have hg:=ze W (.cells #[.map (some mb)] 129) none;have hb:=heap_alloc_new W (.cells #[.map (some mb)] 129);have HSO:=zd (zgv (h.recs.kept hg (by simp)) (fun n hn=>by
  obtain⟨r,hr,rfl⟩:=List.mem_map.1 hn;obtain⟨r0,hr0,rfl⟩:=List.mem_map.1 hr;have:=hk r0 hr0;have e1:IntKind.i64.min = -9223372036854775808:=by decide
  have e2:IntKind.i64.max=9223372036854775807:=by decide
  simp[Lit.wf,e1,e2];omega) (by simpa using hl) W.heap.size (by simp) ((zf hb 0).trans rfl))
 have HK:=zd (zjr (some mb) W);have HE:Hid (((S.recs.map fun r=>(r.1,rv r.1)).map (·.1))=S.recs.map (·.1)):=(show _=_ from by rw[List.map_map];rfl)
 have HG:=zd hg;clear h hg hb
 go_enter Tryz.func26,Tryz.ntmps26
 go_wp2_with (first
  | (go_at_call 106;refine HK.out.mono ?_;rintro e w1 ⟨rfl,rfl⟩)
  | (go_at_call 105;refine HSO.out.mono ?_;rintro e w4 ⟨v,rfl,hv⟩;have HV:=zd hv;clear hv))
 go_ret
 have h1:=HV.out.1;rw[HE.out] at h1;simp only[List.length_mergeSort,List.length_map] at h1
 exact⟨zh HG.out HV.out.2.2,v,rfl,Zz h1 (by simp)⟩
end
open Go.RowKit Go.Sf
theorem qe (g j:Nat):(⟨g,0,none⟩:Addr).add j=⟨g,j,none⟩:=by unfold Addr.add;split <;> simp_all
theorem ze8 (b off j:Nat):(⟨b,off,none⟩:Addr).add j=⟨b,off+j,none⟩:=by unfold Addr.add;split <;> simp_all
theorem zdt (l:List Int) (s:ByteArray):l.foldl (fun r n=>r.push (UInt8.ofNat n.toNat)) s=⟨s.data++(l.map fun b=>UInt8.ofNat b.toNat).toArray⟩:=by
 induction l generalizing s with
 | nil=>simp
 | cons n l ih=>
  rw[List.foldl_cons,ih];simp[ByteArray.push]
theorem Yy {w:World} {v:Value} {l:List Int} (h:yi w v l):(convert 32 9 v).run Tryz.prog w = .ok (.string (ofB l)) w:=by
 obtain⟨p,cap,rfl,hc⟩:=h.ex;rw[run_convert_bytes_string w _ _ 5 p _ cap Tryz.underlying32 Tryz.underlying5 Tryz.underlying9]
 cases p with
 | none=>
  have h0:l = []:=by
   rcases hc with h0|⟨a,h1,_⟩
   ·exact h0
   ·cases h1
  subst h0;simp[Conv.bytesToString,ofB]
  rfl
 | some a=>
  have hl:(loadCells a l.length).run Tryz.prog w = .ok (l.map (Value.int .u8)).toArray w:=by
   have:=run_loadCells_list (P:=Tryz.prog) w a (l.map (Value.int .u8)) (fun j v hj=>by
    rcases hc with h0|⟨a',h1,h2⟩
    ·subst h0;simp at hj
    ·cases h1;exact h2 j v (by simpa[zg] using hj))
   simpa using this
  rw[run_bytesToString w a l.length cap l hl,zdt];simp[ofB,ByteArray.empty,ByteArray.emptyWithCapacity]
  rfl
theorem zeq (l m:List Int):ofB l++ofB m=ofB (l++m):=by
 apply ByteArray.ext
 rw[ByteArray.data_append]
 apply Array.ext'
 simp[ofB]
theorem Vo (n:Nat) (hn:n≤4096) (w:World):(Instr.makeSlice 32 (.int .i64 (n:Int)) (.int .i64 (n:Int))).run Tryz.prog w = .ok (.slice (some ⟨w.heap.size,0,none⟩) n n) (w.alloc (.cells (zg (List.replicate n 0)).toArray 5)):=by
 have:=run_make_row' (P:=Tryz.prog) 32 5 (.int .u8 0) 1 Tryz.underlying32 ur rfl .i64 .i64 n (by omega) (by omega) w
 rw[this];have e:madeCells #[Value.int .u8 0] n=(zg (List.replicate n 0)).toArray:=by
  apply Array.ext'
  rw[toList_madeCells_one];simp[zg]
 rw[e]
open Go.RowKit Go.Sf Go.Shelf
theorem Uw {α:Type} (enc:α→List Value) (sz:Nat) (he:∀x,(enc x).length=sz):∀(l:List α) (i j:Nat) (hi:i<l.length),j<sz→(l.flatMap enc)[i*sz+j]? = (enc l[i])[j]?
 | [],i,j,hi,_=>by simp at hi
 | x :: r,0,j,hi,hj=>by
  simp only[List.flatMap_cons,Nat.zero_mul,Nat.zero_add,List.getElem_cons_zero];rw[List.getElem?_append_left (by rw[he];exact hj)]
 | x :: r,i+1,j,hi,hj=>by
  simp only[List.flatMap_cons,List.getElem_cons_succ];rw[List.getElem?_append_right (by rw[he,Nat.succ_mul];omega),he]
  have e:(i+1)*sz+j-sz=i*sz+j:=by rw[Nat.succ_mul];omega
  rw[e]
  exact Uw enc sz he r i j (by simpa using hi) hj
theorem Vu {α:Type} (enc:α→List Value) (sz:Nat) (he:∀x,(enc x).length=sz):∀(l:List α),(l.flatMap enc).length=l.length*sz
 | []=>by simp
 | x :: r=>by simp only[List.flatMap_cons,List.length_append,he,Vu enc sz he r,List.length_cons,Nat.succ_mul];omega
theorem yd {W w1 w2:World} {r:Option Nat} (h1:W.grownBy w1 none) (h2:w1.grownBy w2 r) (hr:∀b,r=some b→W.heap.size≤b):W.grownBy w2 none:=
 ⟨h2.os.trans h1.os,h2.tape.trans h1.tape,h2.output.trans h1.output,Nat.le_trans h1.size h2.size,fun k hk _=>(h2.block k (Nat.lt_of_lt_of_le hk h1.size) (fun e=>by have:=hr k e.symm;omega)).trans (h1.block k hk (by simp))⟩
def yo {α:Type} (W:World) (E:TypeId) (sz:Nat) (enc:α→List Value) (v:Value) (l:List α):Prop:=W.ownsRow 0 E sz v l.length (l.flatMap enc)
section
variable {α : Type} {W W' : World} {E : TypeId} {sz : Nat} {enc : α → List Value} {v : Value} {l : List α}
theorem yo.form (h:yo W E sz enc v l):∃p cap,v = .slice p l.length cap∧cap≤9223372036854775807∧l.length≤cap:=by
 rcases h.2 with ⟨e1,h0⟩|⟨b,c,cur,e1,_,_,r1,r2,_⟩
 ·exact⟨none,0,by rw[e1,h0],by omega,by omega⟩
 ·exact⟨_,_,e1,by unfold maxLen at r2;omega,r1⟩
theorem yo.at (he:∀x,(enc x).length=sz) (h:yo W E sz enc v l):l = []∨∃g cap,v = .slice (some ⟨g,0,none⟩) l.length cap∧(∀i,(hi:i<l.length)→∀j u,(enc l[i])[j]? = some u→W.cell? ⟨g,i*sz+j,none⟩=some u)∧∀i,W.frozen? ⟨g,i,none⟩=false:=by
 rcases h.2 with ⟨e1,h0⟩|⟨b,c,cur,e1,_,hb,r1,r2,r3,r4⟩
 ·exact Or.inl (List.eq_nil_of_length_eq_zero h0)
 ·refine Or.inr ⟨b,c,e1,fun i hi j u hu=>?_,fun i=>by simp[World.frozen?,hb]⟩
  have hj:j<sz:=by
   have:=(List.getElem?_eq_some_iff.1 hu).1;rw[he] at this
   exact this
  have h2:=h;unfold yo at h2;rw[e1] at h2;have hlt:i*sz+j<l.length*sz:=by
   have:(i+1)*sz≤l.length*sz:=Nat.mul_le_mul_right _ hi;rw[Nat.succ_mul] at this;omega
  rw[h2.cellAt _ hlt,Uw enc sz he l i j hi hj]
  exact hu
theorem yo.same (h:yo W E sz enc v l) (hs:∀g,v.ownBlock=some g→W'.heap[g]? = W.heap[g]?):yo W' E sz enc v l:=by
 refine⟨h.1,?_⟩
 rcases h.2 with hn|⟨b,cap,cur,rfl,h1,hb,h3⟩
 ·exact .inl hn
 ·exact .inr ⟨b,cap,cur,rfl,h1,(hs b (by simp[Value.ownBlock])).trans hb,h3⟩
theorem yo.lt (h:yo W E sz enc v l) {g:Nat} (hg:v.ownBlock=some g):g<W.heap.size:=(World.ownsRow.lt h g hg).2
theorem yo.kind (h:yo W E sz enc v l) {g:Nat} (hg:v.ownBlock=some g):∃c,W.heap[g]? = some (.cells c E (0,0)):=by
 rcases h.2 with ⟨rfl,_⟩|⟨b,cap,cur,rfl,_,hb,_⟩
 ·simp[Value.ownBlock] at hg
 ·simp[Value.ownBlock] at hg
  subst hg
  exact⟨_,hb⟩
theorem yo.grown (h:yo W E sz enc v l) {r:Option Nat} (hg:W.grownBy W' r) (hr:∀g,v.ownBlock=some g→r≠some g):yo W' E sz enc v l:=
 h.same fun g hg2=>hg.block g (h.lt hg2) (fun e=>hr g hg2 e.symm)
end
theorem qf {W:World} {α:Type} {E E':TypeId} {sz:Nat} {enc:α→List Value} {v:Value} {l:List α} (h:yo W E sz enc v l) {g:Nat} {c:Array Value} {fr:Nat × Nat} (hg:W.heap[g]? = some (.cells c E' fr)) (hne:E≠E'):v.ownBlock≠some g:=by
 intro e;obtain⟨c',h2⟩:=h.kind e;rw[hg] at h2
 cases h2
 exact hne rfl
def Yx {α:Type} (W:World) (enc:α→List Value) (y:Value) (m:List α):Prop:=∃p cap,y = .slice p m.length cap∧(m = []∨∃a,p=some a∧∀j u,(m.flatMap enc)[j]? = some u→W.cell? (a.add j)=some u)
def Yb {α:Type} (W:World) (E:TypeId) (sz:Nat) (enc:α→List Value) (v:Value) (l:List α) (v':Value) (w':World):Prop:=
 yo w' E sz enc v' l∧W.grownBy w' v.ownBlock∧(v'.ownBlock=v.ownBlock∨v'.ownBlock=some W.heap.size)
section
variable {α : Type} {P : Program} {W : World} {E : TypeId} {sz : Nat} {enc : α → List Value} {v y : Value} {l m : List α}
theorem zgo (he:∀x,(enc x).length=sz) (h1c:∀x,∀u∈enc x,u.oneCell'=true) (t ty:TypeId) (i:TypeInfo) (z:Value) (bytes:Nat) (ht:P.underlying t=some (.slice E)) (hi:P.info? E=some i) (hz:i.zero=some z)
  (hsize:i.size=sz) (hby:i.bytes=bytes) (hzs:z.cells.size=sz) (hsz:0<sz) (hb:bytes≤1000) (h:yo W E sz enc v l) (hy:Yx W enc y m) (hl:l.length+m.length≤1000000000) :
  ∃v' w',(Builtin.append_ #[t,t] ty #[v,y]).run P W = .ok v' w'∧Yb W E sz enc v (l++m) v' w':=by
 obtain⟨p,cap,rfl,hc⟩:=hy
 cases p with
 | none=>
  have hm:m = []:=by
   rcases hc with h0|⟨a,ha,_⟩
   ·exact h0
   ·cases ha
  subst hm;have e0:(Builtin.append_ #[t,t] ty #[v,.slice none 0 cap]).run P W = .ok v W:=by
   rcases h.2 with ⟨rfl,h0⟩|⟨g,c,cur,rfl,_,_,hnc,_⟩
   ·simp[Builtin.append_,run_underlying ht,sizeOf,typeInfo,hi,Builtin.lenOf,Builtin.firstCells,h0]
   ·simp[Builtin.append_,run_underlying ht,sizeOf,typeInfo,hi,Builtin.lenOf,Builtin.firstCells,hnc,storeCells]
  exact⟨v,W,e0,by rw[List.append_nil];exact h,⟨rfl,rfl,rfl,Nat.le_refl _,fun _ _ _=>rfl⟩,Or.inl rfl⟩
 | some a=>
  have hnews:∀j u,(m.flatMap enc)[j]? = some u→W.cell? (a.add j)=some u:=by
   rcases hc with h0|⟨a',ha,hc⟩
   ·subst h0;intro j u hu;simp at hu
   ·cases ha;exact hc
  have hbm:(l.length+m.length)*bytes≤140737488355328:=Nat.le_trans (Nat.mul_le_mul_left _ hb) (by omega)
  obtain⟨v',w',hr,h2,h3,h4,h5⟩:=run_append_own_at (P:=P) W 0 t ty E i z sz bytes ht hi hz hsize hby hzs hsz v l.length (l.flatMap enc) h a m.length cap (m.flatMap enc) (Vu enc sz he m) hnews (fun u hu=>by
   obtain⟨x,_,hx⟩:=List.mem_flatMap.1 hu
   exact h1c x u hx) (by unfold maxLen;omega) hbm (Nat.zero_le _)
  refine⟨v',w',hr,?_,h3,h5⟩;unfold yo;rw[List.length_append,List.flatMap_append]
  exact h2
theorem vh (w:World) {ops:Array Oper} {rest:List Oper} {o:Oper} {a:Act} {Q:Exit→Act→World→Prop} (hgd:o.guard=none) (s x:Operand) (t:TypeId) (hop:o.op = .call { callee:=.builtin .append,args:=#[s,x],argTypes:=#[t,t] })
  (he:∀x,(enc x).length=sz) (h1c:∀x,∀u∈enc x,u.oneCell'=true) (i:TypeInfo) (z:Value) (bytes:Nat) (ht:P.underlying t=some (.slice E)) (hi:P.info? E=some i) (hz:i.zero=some z)
  (hsize:i.size=sz) (hby:i.bytes=bytes) (hzs:z.cells.size=sz) (hsz:0<sz) (hb:bytes≤1000) (hs:a.eval s=v) (h:yo w E sz enc v l) (hx:a.eval x=y) (hy:Yx w enc y m) (hl:l.length+m.length≤1000000000) (n:Nat) (hn:l.length+m.length=n)
  (hK:∀p' cap' w',Yb w E sz enc v (l++m) (.slice p' n cap') w'→wpList P ops Q rest (a.put o.dst (.slice p' n cap')) w'):wpList P ops Q (o :: rest) a w:=by
 obtain⟨v',w',hr,h1⟩:=zgo (P:=P) he h1c t o.type i z bytes ht hi hz hsize hby hzs hsz hb h hy hl;obtain⟨p',cap',rfl,-,-⟩:=h1.1.form;rw[List.length_append,hn] at hr h1
 exact Go.Lib.wpList_append_run w hgd s x t t hop v y hs hx _ _ hr (hK p' cap' w' h1)
theorem xc {ops:Array Oper} {o:Oper} {a:Act} {w:World} {K:Act→World→Prop} {Q:Exit→Act→World→Prop} {F:Prop} (hgd:o.guard=none) (s x:Operand) (t:TypeId) (hop:o.op=Op.call { callee:=Callee.builtin Builtin.append,args:=#[s,x],argTypes:=#[t,t] })
  (he:∀x,(enc x).length=sz) (h1c:∀x,∀u∈enc x,u.oneCell'=true) (i:TypeInfo) (z:Value) (bytes:Nat) (ht:P.underlying t=some (.slice E)) (hi:P.info? E=some i) (hz:i.zero=some z)
  (hsize:i.size=sz) (hby:i.bytes=bytes) (hzs:z.cells.size=sz) (hsz:0<sz) (hb:bytes≤1000) (hs:a.eval s=v) (h:yo w E sz enc v l) (hx:a.eval x=y) (hy:Yx w enc y m) (hl:l.length+m.length≤1000000000) (n:Nat) (hn:l.length+m.length=n)
  (hK:∀p' cap' w',Yb w E sz enc v (l++m) (.slice p' n cap') w'→K (a.put o.dst (.slice p' n cap')) w'):if Region.wanted o (yielded ops a.tmps)=true then Oper.wp P o a w K Q else F:=by
 have hw:Region.wanted o (yielded ops a.tmps)=true:=by simp[Region.wanted,hgd]
 rw[if_pos hw];obtain⟨v',w',hr,h1⟩:=zgo (P:=P) he h1c t o.type i z bytes ht hi hz hsize hby hzs hsz hb h hy hl;obtain⟨p',cap',rfl,-,-⟩:=h1.1.form;rw[List.length_append,hn] at hr h1
 exact Go.Lib.wp_append_run w s x t t hop v y hs hx _ _ hr (hK p' cap' w' h1)
end
open Go.Sf
abbrev ye:=List Int × List Nat
def Zq (rows:List (zr × xg)) (K:zr):Option ye:=match zx rows K with
 | none=>none
 | some r=>if r.whole=true then some (jb r,uh r) else none
structure zbh (got:zr→Option ye) (L:List (Int × ye)):Prop where
 srt:L.Pairwise (fun a b=>a.1<b.1)
 mem:∀y,y∈L↔∃c,got ⟨y.1,c⟩=some y.2∧∀c',c'<c→got ⟨y.1,c'⟩=none
theorem zbh.uniq {got:zr→Option ye} {L M:List (Int × ye)} (h:zbh got L) (g:zbh got M):L=M:=
 zau (fun y=>y.1) h.srt g.srt fun y=>(h.mem y).trans (g.mem y).symm
structure zbf (got:zr→Option ye) (ks:List zr) (acc:List (Int × ye)):Prop where
 srt:acc.Pairwise (fun a b=>a.1<b.1)
 mem:∀y,y∈acc↔∃K∈ks,K.k=y.1∧got K=some y.2∧∀K'∈ks,K'.k=y.1→K'.count<K.count→got K'=none
theorem zem {acc:List (Int × ye)} {k:Int} (h:(zx acc k).isSome=true):∃r,(k,r)∈acc:=by
 obtain⟨r,hr⟩:=Option.isSome_iff_exists.1 h
 exact⟨r,qq hr⟩
theorem zgb {rows:List (zr × xg)} {ks:List zr} {acc:List (Int × ye)} {K:zr} (h:zbf (Zq rows) ks acc) (hlt:∀K'∈ks,Ye K' K) :
  zbf (Zq rows) (ks ++ [K]) (match Zq rows K with
   | none=>acc
   | some r=>if (zx acc K.k).isSome=true then acc else acc ++ [(K.k,r)]):=by
 have hne:∀K'∈ks,∀K2,K2=K→K'.k=K.k→K'.count<K.count:=fun K' hK' _ _ e=>by
  rcases hlt K' hK' with h1|⟨_,h1⟩
  ·omega
  ·exact h1
 have stay:(∀y:Int × ye,(∃K2,K2=K∧K.k=y.1∧Zq rows K=some y.2∧∀K'∈ks ++ [K],K'.k=y.1→K'.count<K.count→Zq rows K'=none)→False)→zbf (Zq rows) (ks ++ [K]) acc:=fun hno=>by
  refine⟨h.srt,fun y=>?_⟩
  rw[h.mem]
  constructor
  ·rintro⟨K1,h1,h2,h3,h4⟩
   refine⟨K1,List.mem_append_left _ h1,h2,h3,fun K' hK' hk hc=>?_⟩
   rcases List.mem_append.1 hK' with g|g
   ·exact h4 K' g hk hc
   ·rw[List.mem_singleton.1 g] at hk hc
    have:=hne K1 h1 K rfl (by omega)
    omega
  ·rintro⟨K1,h1,h2,h3,h4⟩
   rcases List.mem_append.1 h1 with g|g
   ·exact⟨K1,g,h2,h3,fun K' hK'=>h4 K' (List.mem_append_left _ hK')⟩
   ·obtain rfl:=List.mem_singleton.1 g
    exact(hno y ⟨K1,rfl,h2,h3,h4⟩).elim
 cases e:Zq rows K with
 | none=>exact stay fun y ⟨_,_,_,h3,_⟩=>by rw[e] at h3;cases h3
 | some r=>
  simp only
  by_cases hs:(zx acc K.k).isSome=true
  ·rw[if_pos hs]
   obtain⟨r0,hr0⟩:=zem hs;obtain⟨K1,g1,g2,g3,g4⟩:=(h.mem _).1 hr0;refine stay fun y ⟨_,_,h2,h3,h4⟩=>?_
   have:=h4 K1 (List.mem_append_left _ g1) (by simp only at g2;omega) (hne K1 g1 K rfl g2)
   rw[g3] at this;cases this
  ·rw[if_neg hs]
   have hn:∀y∈acc,y.1≠K.k:=by
    have:zx acc K.k=none:=by cases e2:zx acc K.k with
     | none=>rfl
     | some v=>rw[e2] at hs;simp at hs
    exact ja.1 this
   refine⟨?_,fun y=>?_⟩
   ·rw[List.pairwise_append]
    refine⟨h.srt,by simp,fun y hy z hz=>?_⟩
    rw[List.mem_singleton.1 hz];obtain⟨K1,g1,g2,_,_⟩:=(h.mem y).1 hy;have:=hn y hy
    rcases hlt K1 g1 with h1|⟨h1,_⟩ <;> simp only <;> omega
   ·rw[List.mem_append,h.mem]
    constructor
    ·rintro(⟨K1,h1,h2,h3,h4⟩|h1)
     ·refine⟨K1,List.mem_append_left _ h1,h2,h3,fun K' hK' hk hc=>?_⟩
      rcases List.mem_append.1 hK' with g|g
      ·exact h4 K' g hk hc
      ·rw[List.mem_singleton.1 g] at hk hc
       have:=hne K1 h1 K rfl (by omega)
       omega
     ·obtain rfl:=List.mem_singleton.1 h1
      refine⟨K,by simp,rfl,e,fun K' hK' hk hc=>?_⟩
      rcases List.mem_append.1 hK' with g|g
      ·cases e2:Zq rows K' with
       | none=>rfl
       | some r2=>
        -- then the least of them stands in acc
        exfalso
        have hex:∃K0∈ks,K0.k=K.k∧(Zq rows K0).isSome=true:=⟨K',g,hk,by rw[e2];rfl⟩
        have:∀n,∀K0∈ks,K0.count=n→K0.k=K.k→(Zq rows K0).isSome=true→False:=by
         intro n
         induction n using Nat.strongRecOn with
         | ind n ih=>
          intro K0 h0 hcn hk0 hs0;obtain⟨r0,hr0⟩:=Option.isSome_iff_exists.1 hs0
          by_cases hmin:∀K'∈ks,K'.k=K.k→K'.count<K0.count→Zq rows K'=none
          ·exact hn (K.k,r0) ((h.mem _).2 ⟨K0,h0,hk0,hr0,hmin⟩) rfl
          ·simp only[Classical.not_forall] at hmin
           obtain⟨K3,a1,a2,a3,a4⟩:=hmin
           exact ih K3.count (by omega) K3 a1 rfl a2 (by cases e5:Zq rows K3 with
            | none=>exact absurd e5 a4
            | some _=>rfl)
        obtain⟨K0,b1,b2,b3⟩:=hex
        exact this K0.count K0 b1 rfl b2 b3
      ·rw[List.mem_singleton.1 g] at hc
       omega
    ·rintro⟨K1,h1,h2,h3,h4⟩
     rcases List.mem_append.1 h1 with g|g
     ·exact Or.inl ⟨K1,g,h2,h3,fun K' hK'=>h4 K' (List.mem_append_left _ hK')⟩
     ·obtain rfl:=List.mem_singleton.1 g
      right
      rw[e] at h3
      cases h3
      obtain⟨y1,y2⟩:=y;simp only at h2;subst h2;simp
theorem pick_eq (rows:List (zr × xg)) (K:zr) (t:List zr) (acc:List (Int × ye)):Uh rows (K :: t) acc=Uh rows t (match Zq rows K with
   | none=>acc
   | some r=>if (zx acc K.k).isSome=true then acc else acc ++ [(K.k,r)]):=by
 conv=>lhs;unfold Uh
 unfold Zq
 cases e:zx rows K with
 | none=>rfl
 | some r=>
  cases hw:r.whole with
  | false=>simp[hw]
  | true=>
   simp only[hw,if_true,Bool.true_eq_false,or_false]
   by_cases hs:(zx acc K.k).isSome=true
   ·rw[if_pos hs,if_pos hs]
   ·rw[if_neg hs,if_neg hs]
    have:zx acc K.k=none:=by cases e2:zx acc K.k with
     | none=>rfl
     | some v=>rw[e2] at hs;simp at hs
    rw[Ug this]
theorem zap (rows:List (zr × xg)):∀(t ks:List zr) (acc:List (Int × ye)),zbf (Zq rows) ks acc→(ks++t).Pairwise Ye→zbf (Zq rows) (ks++t) (Uh rows t acc)
 | [],ks,acc,h,_=>by rw[List.append_nil];exact h
 | K :: t,ks,acc,h,hs=>by
  rw[pick_eq];have hs2:((ks ++ [K])++t).Pairwise Ye:=by rw[List.append_assoc];exact hs
  have hlt:∀K'∈ks,Ye K' K:=fun K' hK'=>by
   rw[List.pairwise_append] at hs
   exact hs.2.2 K' hK' K (by simp)
  have:=zap rows t (ks ++ [K]) _ (zgb h hlt) hs2
  rwa [List.append_assoc] at this
theorem zj8 {rows:List (zr × xg)} {ks:List zr} (hks:∀K,K∈ks↔∃r,zx rows K=some r) (hsrt:ks.Pairwise Ye):zbh (Zq rows) (Uh rows ks []):=by
 have h:=zap rows ks [] [] ⟨by simp,fun y=>by simp⟩ (by simpa using hsrt)
 rw[List.nil_append] at h;have hin:∀K r,Zq rows K=some r→K∈ks:=fun K r hg=>by
  rw[hks];unfold Zq at hg
  cases e:zx rows K with
  | none=>rw[e] at hg;cases hg
  | some r0=>exact⟨r0,rfl⟩
 refine⟨h.srt,fun y=>?_⟩
 rw[h.mem]
 constructor
 ·rintro⟨K,h1,h2,h3,h4⟩
  obtain⟨k,c⟩:=K;simp only at h2;subst h2;refine⟨c,h3,fun c' hc'=>?_⟩
  cases e:Zq rows ⟨y.1,c'⟩ with
  | none=>rfl
  | some r2=>
   have:=h4 ⟨y.1,c'⟩ (hin _ _ e) rfl hc';rw[e] at this;cases this
 ·rintro⟨c,h1,h2⟩
  refine⟨⟨y.1,c⟩,hin _ _ h1,rfl,h1,fun K' hK' hk hc=>?_⟩
  obtain⟨k',c'⟩:=K';simp only at hk hc;subst hk
  exact h2 c' hc
end Go.Proofs.YtbcbhlfjgobejaaGreat
