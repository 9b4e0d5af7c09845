/- A map of typed pairs as the shelf's contracts have it. Conditions: none, or as the theorems say. -/
import Derived.Test.YtbcbhlfjgobejaaGreatS1
import Derived.Shelf.SlIterI.Nil
import Derived.Shelf.SlIter.Nil
import Derived.Sort.KeysCollected
import Derived.Shelf.SortM.Plain
import Derived.Shelf.SortM.SortNone
import Derived.Ground.GgzProg
import Derived.Ground.SlgmProg
import Derived.Shelf.SlGeneric
import Derived.Test.YtbcbhlfjgobejaaGreatProg
import Derived.Test.YtbcbhlfjgobejaaGreatS16
import Derived.Deep.OwnRows
import Derived.Lib.SlBytesConst
import Derived.Test.YtbcbhlfjgobejaaGreatS14
import Derived.Test.YtbcbhlfjgobejaaGreatS15
set_option linter.unusedSimpArgs false
set_option linter.unusedVariables false
namespace Go.Sf
set_option maxHeartbeats 200000000
open Go.MapKept Go.RowKit Go.Maps
open Go.WideElems (Fit rd rg)
def zcx:Value→Option (DataW Unit × List MemPlace):=λ_=>some (.nil,[])
theorem yg.owns {P:Program} {k:TypeId} {K V:Type} {ek:K→Value} {ev:V→Value} {w:World} {b:Nat} {m:List (K × V)} (h:yg w b ek ev m) (kl:K→Lit) (hk:∀p∈m,keyOf P k (ek p.1)=some (kl p.1)) (hl:m.length≤maxLen) :
  ∃E,w.ownsMap P k zcx b m.length (.map E)∧E.Perm (m.map λp=>(kl p.1,(DataW.nil:DataW Unit))):=by
 obtain⟨es,clock,hb,hs,he⟩:=h;have hsz:es.size=m.length:=by have:=congrArg List.length he;simpa using this
 have hrd:∀x∈es.toList,∀p∈m,x.key=ek p.1→rd P k zcx x=some (kl p.1,.nil):=λx hx p hp e=>by
  unfold rd;rw[e,hk p hp]
  rfl
 refine⟨(es.toList.map (rg P k zcx)).foldr DataW.insert [],⟨es,clock,hb,⟨by omega,hs,λx hx=>?_⟩,by omega,rfl⟩,(WideShapes.sorted_perm _).trans ?_⟩
 ·obtain⟨p,hp,e1,_⟩:=Xd he x hx
  exact⟨_,hrd x hx p hp e1⟩
 ·have:es.toList.map (rg P k zcx)=m.map λp=>(kl p.1,(DataW.nil:DataW Unit)):=by
   apply List.ext_getElem?
   intro i;simp only[List.getElem?_map]
   cases hi:es.toList[i]? with
   | none=>
    have:m[i]? = none:=by
     rw[List.getElem?_eq_none_iff] at hi ⊢;simpa[hsz] using hi
    rw[this];rfl
   | some x=>
    obtain⟨p,hp,e1,_⟩:=Vq he hi;rw[hp];simp only[Option.map_some];unfold rg;rw[hrd x (List.mem_of_getElem? hi) p (List.mem_of_getElem? hp) e1]
    rfl
  rw[this]
end Go.Sf
namespace Go.Proofs
open Go.Shelf
def Tryz.keysI_ren:Go.Shelf.Ren:=⟨fun|7=>106|10=>178|n=>n,fun|23=>129|26=>2|3=>158|28=>181|0=>0|27=>180|33=>271|4=>4|n=>n,fun|n=>n⟩
theorem Tryz.keysI:Go.Proofs.SlLaysZI.n7 Tryz.prog Tryz.keysI_ren:={
 mixed:=by kernel_rfl
 f7:=⟨Tryz.f106.name,by decide,Tryz.func106.trans (congrArg some (by kernel_rfl))⟩
 f10:=⟨Tryz.f178.name,by decide,Tryz.func178.trans (congrArg some (by kernel_rfl))⟩
 t0:=Tryz.underlying0
 a0:=Tryz.isAgg0
 z0:=Tryz.sizeOf0
 v0:=Tryz.zeroValue0
 t4:=Tryz.underlying4
 a4:=Tryz.isAgg4
 z4:=Tryz.sizeOf4
 v4:=Tryz.zeroValue4
 t23:=Tryz.underlying129
 a23:=Tryz.isAgg129
 z23:=Tryz.sizeOf129
 v23:=Tryz.zeroValue129
 t26:=Tryz.underlying2
 a26:=Tryz.isAgg2
 z26:=Tryz.sizeOf2
 v26:=Tryz.zeroValue2
 t27:=Tryz.underlying180
 a27:=Tryz.isAgg180
 z27:=Tryz.sizeOf180
 v27:=Tryz.zeroValue180
 t28:=Tryz.underlying181
 a28:=Tryz.isAgg181
 z28:=Tryz.sizeOf181
 v28:=Tryz.zeroValue181
 t33:=Tryz.underlying271
 a33:=Tryz.isAgg271
 z33:=Tryz.sizeOf271
 v33:=Tryz.zeroValue271 }
def Tryz.sortedI_ren:Go.Shelf.Ren:=⟨fun|6=>105|8=>177|9=>131|11=>219|13=>191|12=>190|23=>234|24=>235|14=>225|15=>226|16=>227|17=>228|18=>229|19=>230|20=>231|21=>232|22=>233|25=>258|26=>259|27=>260|28=>261|29=>262|30=>172|31=>276|n=>n,fun|26=>2|28=>181|24=>40|0=>0|3=>3|37=>285|48=>172|50=>51|4=>4|40=>319|39=>318|45=>324|5=>5|9=>9|51=>342|55=>345|57=>357|58=>358|33=>271|n=>n,fun|n=>n⟩
theorem Tryz.sortedI:Go.Proofs.SlLaysZI.n6 Tryz.prog Tryz.sortedI_ren:={
 mixed:=by kernel_rfl
 f6:=⟨Tryz.f105.name,by decide,Tryz.func105.trans (congrArg some (by kernel_rfl))⟩
 f8:=⟨Tryz.f177.name,by decide,Tryz.func177.trans (congrArg some (by kernel_rfl))⟩
 f11:=⟨Tryz.f219.name,by decide,Tryz.func219.trans (congrArg some (by kernel_rfl))⟩
 t0:=Tryz.underlying0
 a0:=Tryz.isAgg0
 z0:=Tryz.sizeOf0
 v0:=Tryz.zeroValue0
 t24:=Tryz.underlying40
 a24:=Tryz.isAgg40
 z24:=Tryz.sizeOf40
 v24:=Tryz.zeroValue40
 t26:=Tryz.underlying2
 a26:=Tryz.isAgg2
 z26:=Tryz.sizeOf2
 v26:=Tryz.zeroValue2
 t28:=Tryz.underlying181
 a28:=Tryz.isAgg181
 z28:=Tryz.sizeOf181
 v28:=Tryz.zeroValue181
 i26:=by kernel_rfl }
def Tryz.sortI_ren:Go.Shelf.Ren:=⟨fun|5=>131|8=>191|7=>190|19=>234|20=>235|10=>225|11=>226|12=>227|13=>228|14=>229|15=>230|16=>231|17=>232|18=>233|30=>258|31=>259|32=>260|33=>261|34=>262|35=>172|40=>276|n=>n,fun|23=>40|25=>2|3=>3|32=>285|22=>40|0=>0|44=>172|46=>51|4=>4|36=>319|35=>318|41=>324|5=>5|9=>9|53=>342|57=>345|63=>357|64=>358|n=>n,fun|n=>n⟩
theorem Tryz.sortI:Go.Proofs.SlLaysM.n5 Tryz.prog Tryz.sortI_ren:={
 mixed:=by kernel_rfl
 f5:=⟨Tryz.f131.name,by decide,Tryz.func131.trans (congrArg some (by kernel_rfl))⟩
 f7:=⟨Tryz.f190.name,by decide,Tryz.func190.trans (congrArg some (by kernel_rfl))⟩
 f8:=Tryz.func191.trans (congrArg some (by kernel_rfl))
 f10:=⟨Tryz.f225.name,by decide,Tryz.func225.trans (congrArg some (by kernel_rfl))⟩
 f11:=⟨Tryz.f226.name,by decide,Tryz.func226.trans (congrArg some (by kernel_rfl))⟩
 f12:=⟨Tryz.f227.name,by decide,Tryz.func227.trans (congrArg some (by kernel_rfl))⟩
 f13:=⟨Tryz.f228.name,by decide,Tryz.func228.trans (congrArg some (by kernel_rfl))⟩
 f14:=⟨Tryz.f229.name,by decide,Tryz.func229.trans (congrArg some (by kernel_rfl))⟩
 f15:=⟨Tryz.f230.name,by decide,Tryz.func230.trans (congrArg some (by kernel_rfl))⟩
 f16:=⟨Tryz.f231.name,by decide,Tryz.func231.trans (congrArg some (by kernel_rfl))⟩
 f17:=⟨Tryz.f232.name,by decide,Tryz.func232.trans (congrArg some (by kernel_rfl))⟩
 f18:=⟨Tryz.f233.name,by decide,Tryz.func233.trans (congrArg some (by kernel_rfl))⟩
 f19:=Tryz.func234.trans (congrArg some (by kernel_rfl))
 f20:=Tryz.func235.trans (congrArg some (by kernel_rfl))
 f30:=⟨Tryz.f258.name,by decide,Tryz.func258.trans (congrArg some (by kernel_rfl))⟩
 f31:=Tryz.func259.trans (congrArg some (by kernel_rfl))
 f32:=Tryz.func260.trans (congrArg some (by kernel_rfl))
 f33:=⟨Tryz.f261.name,by decide,Tryz.func261.trans (congrArg some (by kernel_rfl))⟩
 f34:=⟨Tryz.f262.name,by decide,Tryz.func262.trans (congrArg some (by kernel_rfl))⟩
 f35:=⟨Tryz.f172.name,by decide,Tryz.func172.trans (congrArg some (by kernel_rfl))⟩
 f40:=⟨Tryz.f276.name,by decide,Tryz.func276.trans (congrArg some (by kernel_rfl))⟩
 t0:=Tryz.underlying0
 a0:=Tryz.isAgg0
 z0:=Tryz.sizeOf0
 v0:=Tryz.zeroValue0
 t3:=Tryz.underlying3
 a3:=Tryz.isAgg3
 z3:=Tryz.sizeOf3
 v3:=Tryz.zeroValue3
 t4:=Tryz.underlying4
 a4:=Tryz.isAgg4
 z4:=Tryz.sizeOf4
 v4:=Tryz.zeroValue4
 t5:=Tryz.underlying5
 a5:=Tryz.isAgg5
 z5:=Tryz.sizeOf5
 v5:=Tryz.zeroValue5
 t9:=Tryz.underlying9
 a9:=Tryz.isAgg9
 z9:=Tryz.sizeOf9
 v9:=Tryz.zeroValue9
 t22:=Tryz.underlying40
 a22:=Tryz.isAgg40
 z22:=Tryz.sizeOf40
 v22:=Tryz.zeroValue40
 t23:=Tryz.underlying40
 a23:=Tryz.isAgg40
 z23:=Tryz.sizeOf40
 v23:=Tryz.zeroValue40
 t25:=Tryz.underlying2
 a25:=Tryz.isAgg2
 z25:=Tryz.sizeOf2
 v25:=Tryz.zeroValue2
 t32:=Tryz.underlying285
 a32:=Tryz.isAgg285
 z32:=Tryz.sizeOf285
 v32:=Tryz.zeroValue285
 t35:=Tryz.underlying318
 a35:=Tryz.isAgg318
 z35:=Tryz.sizeOf318
 v35:=Tryz.zeroValue318
 t36:=Tryz.underlying319
 a36:=Tryz.isAgg319
 z36:=Tryz.sizeOf319
 v36:=Tryz.zeroValue319
 t41:=Tryz.underlying324
 a41:=Tryz.isAgg324
 z41:=Tryz.sizeOf324
 v41:=Tryz.zeroValue324
 t44:=Tryz.underlying172
 a44:=Tryz.isAgg172
 z44:=Tryz.sizeOf172
 v44:=Tryz.zeroValue172
 t46:=Tryz.underlying51
 a46:=Tryz.isAgg51
 z46:=Tryz.sizeOf51
 v46:=Tryz.zeroValue51
 t53:=Tryz.underlying342
 a53:=Tryz.isAgg342
 z53:=Tryz.sizeOf342
 v53:=Tryz.zeroValue342
 t57:=Tryz.underlying345
 a57:=Tryz.isAgg345
 z57:=Tryz.sizeOf345
 v57:=Tryz.zeroValue345
 t63:=Tryz.underlying357
 a63:=Tryz.isAgg357
 z63:=Tryz.sizeOf357
 v63:=Tryz.zeroValue357
 t64:=Tryz.underlying358
 a64:=Tryz.isAgg358
 z64:=Tryz.sizeOf358
 v64:=Tryz.zeroValue358 }
end Go.Proofs
namespace Go.Proofs.YtbcbhlfjgobejaaGreat
open Go.RowKit Go.Sf Go.Shelf Go.Maps Go.Sort
variable {xs:List Bool} {l:List Int} {ab pb tb:Nat} {rp:Nat→Prop} {v:Value} {W w w':World}
theorem sortsI (m:Nat):AnyZI.SortsIn Tryz.prog Tryz.sortedI_ren Fence.wide m:=
 ⟨λblk off cap ss W hH hblk hsz=>callsIn_wide.2 (AnyM.slices_Sort_int Tryz.sortI blk off cap ss W hH hblk hsz),
 λp cap W=>callsIn_wide.2 (AnyM.slices_Sort_int_none Tryz.sortI p cap W)⟩
theorem zb1 (h:Below w.heap.size w w'):w.grownBy w' none:=⟨h.os,h.tape,h.output,h.size,λk hk _=>h.block k hk⟩
theorem zms (mb:Option Nat) (W:World):Calls Tryz.prog 106 #[.map mb] W λe w'=>
  e = .returned (.func (.func 178) #[] #[.pointer (some ⟨W.heap.size,0,none⟩)])∧w'=W.alloc (.cells #[.map mb] 129):=
 callsIn_wide.1 (AnyZI.keys_in Tryz.keysI Fence.wide 5 trivial rfl mb W)
theorem zgw {E:List (Lit × DataW Unit)} (h:E.Perm (l.map λn=>(Lit.int .i64 n,(DataW.nil:DataW Unit)))):(intKeys (.map E)).Perm l:=by
 have h1:=h.map (λp=>(match p.1 with | .int _ x=>x|_=>0:Int))
 have h2:(l.map λn=>(Lit.int .i64 n,(DataW.nil:DataW Unit))).map (λp=>(match p.1 with | .int _ x=>x|_=>0:Int))=l:=by
  rw[List.map_map];simp[Function.comp_def]
 rw[h2] at h1
 exact h1
def Ints (w w':World) (v:Value) (l:List Int):Prop:=w'.ownsRow w.heap.size 2 1 v l.length (l.map (Value.int .i64))∧(v = .slice none 0 0↔l = [])∧w.grownBy w' none
theorem zjf {mb:Nat} {m:List (Int × (Value × Value))} (h:yg W mb (Value.int .i64) Vv m) (hr:∀n∈m.map (·.1),(Lit.int .i64 n).wf=true) (hl:m.length≤1000000) (Bm:Nat) (hBm:Bm<W.heap.size) (hm:W.cell? ⟨Bm,0,none⟩=some (.map (some mb))) :
  Calls Tryz.prog 105 #[.func (.func 178) #[] #[.pointer (some ⟨Bm,0,none⟩)]] W
   λe w'=>∃v,e = .returned v∧Ints W w' v ((m.map (·.1)).mergeSort λx y=>decide (x≤y)):=by
 obtain⟨E,hown,hE⟩:=yg.owns (P:=Tryz.prog) (k:=2) h (λn=>Lit.int .i64 n) (λp hp=>by
  exact keyOf_int_mk Tryz.underlying2 (hr p.1 (List.mem_map.2 ⟨p,hp,rfl⟩))) (by simp[maxLen];omega)
 have hE':E.Perm ((m.map (·.1)).map λn=>(Lit.int .i64 n,(DataW.nil:DataW Unit))):=by
  rw[List.map_map];exact hE
 have hkeys:=zgw hE';have hsz:Maps.size (.map E:DataW Unit)=m.length:=by
  have:=hE'.length_eq;simpa[Maps.size] using this
 have hbl:=hown.lt;have hseq:SeqGives Fence.wide 2 Tryz.prog 178 #[.pointer (some ⟨Bm,0,none⟩)] encZ (λss=>ss.Perm (intKeys (.map E:DataW Unit))) (Maps.size (.map E:DataW Unit)) W:=
  AnyZI.keys_gives (ρ:=Tryz.keysI_ren) { Tryz.keysI with } Fence.wide _ trivial rfl (by omega) Bm mb _ (.map E) _ hBm hm hown
 have cS:=AnyZI.sorted_in Tryz.sortedI Fence.wide 5 trivial trivial trivial trivial rfl (by omega) (sortsI _) (enters_of Tryz.func131 (by kernel_rfl) rfl) 178 #[.pointer (some ⟨Bm,0,none⟩)] trivial (enters_of Tryz.func178 (by kernel_rfl) rfl) _ _ (by rw[hsz];simp[maxLen];omega) (by rw[hsz];omega) _ hseq
 refine(callsIn_wide.1 cS).mono ?_;rintro e w' ⟨v,ss,rfl,hS,hrow,hnil,hb⟩;have hp:ss.Perm (m.map (·.1)):=hS.trans hkeys
 have hm:(ss.mergeSort λx y=>decide (x≤y))=((m.map (·.1)).mergeSort λx y=>decide (x≤y)):=mergeSort_of_perm_i hp
 refine⟨v,rfl,?_,?_,zb1 hb⟩
 ·have h1:ss.length=((m.map (·.1)).mergeSort λx y=>decide (x≤y)).length:=by rw[←hm,List.length_mergeSort]
  rw[h1,hm] at hrow
  exact hrow
 ·rw[hnil,←hm]
  constructor
  ·intro h0;rw[h0];simp
  ·intro h0
   have:=congrArg List.length h0;rw[List.length_mergeSort] at this
   exact List.eq_nil_of_length_eq_zero (by simpa using this)
section
variable {own : Nat → Prop} {W W' : World} {st db mb tb : Nat} {rv : Int → Value × Value} {rb : Nat → Prop} {S : Sto}
set_option maxRecDepth 100000 in
theorem zek (h:SAt own W st db mb tb rv rb S) (hk:∀r∈S.recs,1≤r.1∧r.1≤4611686018427387904) (hl:S.recs.length≤1000000):Calls Tryz.prog 26 #[.pointer (some ⟨st,0,none⟩)] W λe w'=>W.grownBy w' none∧∃v,e = .returned v∧w'.ownsRow W.heap.size 2 1 v S.recs.length (((S.recs.map (·.1)).mergeSort λx y=>decide (x≤y)).map (Value.int .i64)):=by
 obtain⟨c0,c1,c2,c3,c4,y⟩:=h.cells;have hg:=ze W (.cells #[.map (some mb)] 129) none;have hb:=heap_alloc_new W (.cells #[.map (some mb)] 129);have HSO:=zd (zjf (h.recs.kept hg (by simp)) (λn hn=>by
  obtain⟨r,hr,rfl⟩:=List.mem_map.1 hn;obtain⟨r0,hr0,rfl⟩:=List.mem_map.1 hr;have:=hk r0 hr0;have e1:IntKind.i64.min = -9223372036854775808:=by decide
  have e2:IntKind.i64.max=9223372036854775807:=by decide
  simp[Lit.wf,e1,e2];omega) (by simpa using hl) W.heap.size (by simp) ((zf hb 0).trans rfl))
 have HK:=zd (zms (some mb) W);have HE:Hid (((S.recs.map λr=>(r.1,rv r.1)).map (·.1))=S.recs.map (·.1)):=(show _=_ from by rw[List.map_map];rfl)
 have HG:=zd hg;clear h hg hb
 go_enter Tryz.func26,Tryz.ntmps26
 go_wp2_with (first
  | (go_at_call 106;refine HK.out.mono ?_;rintro e w1 ⟨rfl,rfl⟩)
  | (go_at_call 105;refine HSO.out.mono ?_;rintro e w4 ⟨v,rfl,hv⟩;have HV:=zd hv;clear hv))
 go_ret
 have h1:=HV.out.1;rw[HE.out] at h1;simp only[List.length_mergeSort,List.length_map] at h1
 exact⟨zh HG.out HV.out.2.2,v,rfl,Xf h1 (by simp)⟩
end
open Go.RowKit Go.Sf
theorem ut (g j:Nat):(⟨g,0,none⟩:Addr).add j=⟨g,j,none⟩:=by unfold Addr.add;split <;> simp_all
theorem zoc (b off j:Nat):(⟨b,off,none⟩:Addr).add j=⟨b,off+j,none⟩:=by unfold Addr.add;split <;> simp_all
theorem zfy (l:List Int) (s:ByteArray):l.foldl (λr n=>r.push (UInt8.ofNat n.toNat)) s=⟨s.data++(l.map λb=>UInt8.ofNat b.toNat).toArray⟩:=by
 induction l generalizing s with
 | nil=>simp
 | cons n l ih=>
  rw[List.foldl_cons,ih];simp[ByteArray.push]
theorem uh (h:zx w v l):(convert 32 9 v).run Tryz.prog w = .ok (.string (ofB l)) w:=by
 obtain⟨p,cap,rfl,hc⟩:=h.ex;rw[run_convert_bytes_string w _ _ 5 p _ cap Tryz.underlying32 Tryz.underlying5 Tryz.underlying9]
 cases p with
 | none=>
  have h0:l = []:=by
   rcases hc with h0|⟨a,h1,_⟩
   ·exact h0
   ·cases h1
  subst h0;simp[Conv.bytesToString,ofB]
  rfl
 | some a=>
  have hl:(loadCells a l.length).run Tryz.prog w = .ok (l.map (Value.int .u8)).toArray w:=by
   have:=run_loadCells_list (P:=Tryz.prog) w a (l.map (Value.int .u8)) (λj v hj=>by
    rcases hc with h0|⟨a',h1,h2⟩
    ·subst h0;simp at hj
    ·cases h1;exact h2 j v (by simpa[zg] using hj))
   simpa using this
  rw[run_bytesToString w a l.length cap l hl,zfy];simp[ofB,ByteArray.empty,ByteArray.emptyWithCapacity]
  rfl
theorem zg5 (l m:List Int):ofB l++ofB m=ofB (l++m):=by
 apply ByteArray.ext
 rw[ByteArray.data_append]
 apply Array.ext'
 simp[ofB]
theorem Vc (n:Nat) (hn:n≤4096) (w:World):(Instr.makeSlice 32 (.int .i64 (n:Int)) (.int .i64 (n:Int))).run Tryz.prog w = .ok (.slice (some ⟨w.heap.size,0,none⟩) n n) (w.alloc (.cells (zg (List.replicate n 0)).toArray 5)):=by
 have:=run_make_row' (P:=Tryz.prog) 32 5 (.int .u8 0) 1 Tryz.underlying32 Yu rfl .i64 .i64 n (by omega) (by omega) w
 rw[this];have e:madeCells #[Value.int .u8 0] n=(zg (List.replicate n 0)).toArray:=by
  apply Array.ext'
  rw[toList_madeCells_one];simp[zg]
 rw[e]
def NoF (xs:List Bool) (k:Nat):Prop:=∀j,j<k→xs[j]?≠some false
set_option maxRecDepth 100000 in
theorem zh5 {fr:Nat × Nat} (h:W.heap[tb]? = some (.cells (ul xs).toArray 4 fr)) (hl:xs.length≤1000000) :
  Calls Tryz.prog 217 #[.slice (some ⟨tb,0,none⟩) xs.length xs.length,.bool false] W λe w'=>∃r:Int,e = .returned (.int .i64 r)∧(0≤r↔false∈xs)∧w'=W:=by
 have HR:Hid (∀k y,xs[k]? = some y→W.cell? ⟨tb,k,none⟩=some (.bool y)):=(λk y hy=>by rw[zf h];simp[ul,hy])
 have HP:Hid (∀r:Int,(∃j:Nat,r=j∧xs[j]? = some false)→(0≤r↔false∈xs)):=(show ∀_,_→_ from λr ⟨j,h1,h2⟩=>⟨λ_=>List.mem_of_getElem? h2,λ_=>by omega⟩)
 have HNP:Hid (NoF xs xs.length→((0:Int)≤-1↔false∈xs)):=(show _→_ from λhn=>⟨λh=>absurd h (by omega),λh=>by
  obtain⟨j,hj,e⟩:=List.getElem_of_mem h
  exact absurd (by rw[List.getElem?_eq_getElem hj,e]) (hn j hj)⟩)
 clear h;generalize hq:xs.length=q at *;have HQ:=zd hq;clear hq
 go_enter Tryz.func217,Tryz.ntmps217
 go_wp2
 go_loopw [8] (λi wr=>∃k:Nat,k≤q∧i = .int .i64 k∧Hid (NoF xs k)∧wr=W) (λi _=>q-(intOf i).toNat)
 case atStart=>exact⟨0,Nat.zero_le _,rfl,(show NoF _ _ from λj hj=>absurd hj (Nat.not_lt_zero _)),rfl⟩
 case round=>
  obtain⟨k,hk,rfl,hno,hw⟩:=hrel;obtain rfl:W=wr:=hw.symm
  rcases Nat.lt_or_ge k q with hlt|hge
  ·obtain⟨y,hy⟩:∃y,xs[k]? = some y:=⟨_,List.getElem?_eq_getElem (by rw[HQ.out];exact hlt)⟩
   have cy:=HR.out k y hy;have HY:=zd hy;clear hy
   cases y
   ·have HE:=zd (HP.out k ⟨k,rfl,HY.out⟩)
    go_wp2
    go_ret
    exact⟨_,rfl,HE.out,rfl⟩
   ·have HN:Hid (NoF xs (k+1)):=(show NoF _ _ from λj hj=>by
     by_cases e2:j=k
     ·subst e2;rw[HY.out];intro h;cases h
     ·exact hno.out j (by omega))
    go_wp2
    go_roundw
    case rel=>exact⟨k+1,by omega,by go_num,HN,by first|rfl|trivial⟩
    case measure=>simp[intOf];omega
  ·obtain rfl:k=q:=by omega
   have HE:=zd (HNP.out hno.out);go_wp2
   go_ret
   exact⟨_,rfl,HE.out,rfl⟩
set_option maxRecDepth 100000 in
theorem zdg {fr:Nat × Nat} (h:W.heap[tb]? = some (.cells (ul xs).toArray 4 fr)) (hl:xs.length≤1000000) :
  Calls Tryz.prog 174 #[.slice (some ⟨tb,0,none⟩) xs.length xs.length,.bool false] W λe w'=>e = .returned (.bool (xs.contains false))∧w'=W:=by
 have HI:=zd (zh5 h hl);have HC:Hid (∀r:Int,(0≤r↔false∈xs)→decide (0≤r)=xs.contains false):=(show ∀_,_→_ from λr hr=>by
  rw[Bool.eq_iff_iff];simp[hr])
 clear h
 go_enter Tryz.func174,Tryz.ntmps174
 go_wp2_with (go_at_call 217;refine HI.out.mono ?_;rintro e w1 ⟨r,rfl,hr,h5⟩;obtain rfl:W=w1:=h5.symm;have HE:=zd (HC.out r hr);clear hr)
 go_ret
 exact⟨congrArg (λb=>Ending.returned (Value.bool b)) HE.out,rfl⟩
def ym (c:Nat × Value × List Int):List Value:=[.int .i64 (c.1:Int),c.2.1]
structure Ys (W:World) (rp:Nat→Prop) (pb ab tb:Nat) (cs:List (Nat × Value × List Int)) (r:xr):Prop where
 box:W.heap[pb]? = some (.cells #[.slice (some ⟨ab,0,none⟩) r.there.length r.there.length,.slice (some ⟨tb,0,none⟩) r.there.length r.there.length] 162 (0,0))
 at_:W.heap[ab]? = some (.cells (cs.flatMap ym).toArray 146 (0,0))
 there:W.heap[tb]? = some (.cells (ul r.there).toArray 4 (0,0))
 cells:r.cells=cs.map λc=>(c.1,c.2.2)
 rows:∀c∈cs,xw rp W c.2.1 (zg c.2.2)
 len:cs.length=r.there.length
 few:r.there.length≤1000000
theorem Ys.kept {W':World} {cs:List (Nat × Value × List Int)} {r:xr} (h:Ys W rp pb ab tb cs r) (h1:W'.heap[pb]? = W.heap[pb]?) (h2:W'.heap[ab]? = W.heap[ab]?) (h3:W'.heap[tb]? = W.heap[tb]?) (h4:∀k,rp k→W'.heap[k]? = W.heap[k]?):Ys W' rp pb ab tb cs r:=
 ⟨h1.trans h.box,h2.trans h.at_,h3.trans h.there,h.cells,λc hc=>(h.rows c hc).turn h4,h.len,h.few⟩
theorem Ys.lt {cs:List (Nat × Value × List Int)} {r:xr} (h:Ys W rp pb ab tb cs r):pb<W.heap.size∧ab<W.heap.size∧tb<W.heap.size:=
 ⟨(Array.getElem?_eq_some_iff.1 h.box).1,(Array.getElem?_eq_some_iff.1 h.at_).1,(Array.getElem?_eq_some_iff.1 h.there).1⟩
set_option maxRecDepth 100000 in
theorem rwhole {cs:List (Nat × Value × List Int)} {r:xr} (h:Ys W rp pb ab tb cs r):Calls Tryz.prog 93 #[.pointer (some ⟨pb,0,none⟩)] W λe w'=>e = .returned (.bool r.whole)∧w'=W:=by
 have HC:=zd (zdg h.there h.few);have c1:W.cell? ⟨pb,1,none⟩=some (.slice (some ⟨tb,0,none⟩) r.there.length r.there.length):=(zf h.box 1).trans rfl;have HW:Hid (r.whole = !r.there.contains false):=(show _=_ from rfl)
 clear h;generalize r.there.contains false=z at *
 go_enter Tryz.func93,Tryz.ntmps93
 go_wp2_with (go_at_call 174;refine HC.out.mono ?_;rintro e w1 ⟨rfl,h5⟩;obtain rfl:W=w1:=h5.symm)
 go_ret
 exact⟨congrArg (λb=>Ending.returned (Value.bool b)) HW.out.symm,rfl⟩
theorem infoBl:(Tryz.prog.info? 4).map (λi=>(i.zero,i.size,i.bytes))=some (some (.bool false),1,1):=by kernel_rfl
theorem zh6:(Tryz.prog.info? 146).map (λi=>(i.zero,i.size,i.bytes))=some (some (.agg #[.int .i64 0,.slice none 0 0]),2,32):=by kernel_rfl
def cs0 (n:Nat):List (Nat × Value × List Int):=List.replicate n (0,.slice none 0 0,[])
theorem zo8 (a b:Value) (n:Nat):(madeCells #[a,b] (n*2))=((List.replicate n [a,b]).flatten).toArray:=by
 have h:∀n,(List.range (n*2)).map (λi=>(#[a,b]:Array Value)[i%2]!)=(List.replicate n [a,b]).flatten:=by
  intro n
  induction n with
  | zero=>rfl
  | succ n ih=>
   rw[show(n+1)*2=n*2+1+1 by omega,List.range_succ,List.range_succ,List.map_append,List.map_append,ih,List.replicate_succ',List.flatten_append]
   simp[Nat.mul_mod_left,Nat.mul_add_mod]
 unfold madeCells
 apply Array.ext'
 rw[Array.toList_map,Array.toList_range]
 exact h n
theorem zic (n:Nat):madeCells #[.int .i64 0,.slice none 0 0] (n*2)=((cs0 n).flatMap ym).toArray:=by
 rw[zo8]
 congr 1
 unfold cs0;rw[List.flatMap_replicate]
 rfl
theorem zav (n:Nat) (hn:n≤570) (w:World):(Instr.makeSlice 160 (.int .i64 (n:Int)) (.int .i64 (n:Int))).run Tryz.prog w = .ok (.slice (some ⟨w.heap.size,0,none⟩) n n) (w.alloc (.cells ((cs0 n).flatMap ym).toArray 146)):=by
 obtain⟨i,hi,hz⟩:=Option.map_eq_some_iff.1 zh6;simp only[Prod.mk.injEq] at hz;obtain⟨z1,z2,z3⟩:=hz;have:=run_makeSlice (P:=Tryz.prog) (w:=w) 160 146 i (.agg #[.int .i64 0,.slice none 0 0]) Tryz.underlying160 hi z1 .i64 .i64 (n:Int) (n:Int) (by omega) (by omega) (by rw[z2,Int.toNat_natCast];omega) (by rw[z3];omega) (by omega)
 rw[z2,Int.toNat_natCast] at this;rw[this]
 show Result.ok _ (w.alloc (.cells (madeCells #[.int .i64 0,.slice none 0 0] (n*2)) _))=_
 rw[zic]
theorem Vb (n:Nat) (hn:n≤4096) (w:World):(Instr.makeSlice 130 (.int .i64 (n:Int)) (.int .i64 (n:Int))).run Tryz.prog w = .ok (.slice (some ⟨w.heap.size,0,none⟩) n n) (w.alloc (.cells (ul (List.replicate n false)).toArray 4)):=by
 have:=run_make_row' (P:=Tryz.prog) 130 4 (.bool false) 1 Tryz.underlying130 infoBl rfl .i64 .i64 n (by omega) (by omega) w
 rw[this];have e:madeCells #[Value.bool false] n=(ul (List.replicate n false)).toArray:=by
  apply Array.ext'
  rw[toList_madeCells_one];simp[ul]
 rw[e]
theorem Vm {o:Oper} {a:Act} {t:TypeId} {vx vy:Value} (x y:Operand) (hop:o.op=Op.makeSlice t x y) (hx:a.eval x=vx) (hy:a.eval y=vy) (hr:(Instr.makeSlice t vx vy).run Tryz.prog w = .ok v w'):(execOp a.eval o).run Tryz.prog w = .ok (.value v) w':=by
 unfold execOp;rw[hop]
 change (do pure (Next.value (←Instr.makeSlice t (a.eval x) (a.eval y))):Sem Next).run Tryz.prog w=_
 rw[hx,hy];generalize Instr.makeSlice t vx vy=s at *;simp[go_sem,hr]
theorem zp2 {w2:World} {n:Nat} (hn:n≤570) (ha:w2.heap[ab]? = some (.cells ((cs0 n).flatMap ym).toArray 146 (0,0))) (ht:w2.heap[tb]? = some (.cells (ul (List.replicate n false)).toArray 4 (0,0))) :
  Ys (w2.alloc (.cells #[.slice (some ⟨ab,0,none⟩) n n,.slice (some ⟨tb,0,none⟩) n n] 162)) (λ_=>False) w2.heap.size ab tb (cs0 n) (uc n):=by
 have hg:=ze w2 (.cells #[.slice (some ⟨ab,0,none⟩) n n,.slice (some ⟨tb,0,none⟩) n n] 162) none;have hl:(uc n).there.length=n:=by simp[uc]
 refine⟨?_,?_,?_,?_,λc hc=>?_,by rw[hl];simp[cs0],by rw[hl];omega⟩
 ·rw[hl];exact heap_alloc_new _ _
 ·exact(hg.block ab (Array.getElem?_eq_some_iff.1 ha).1 (by simp)).trans ha
 ·exact(hg.block tb (Array.getElem?_eq_some_iff.1 ht).1 (by simp)).trans ht
 ·simp[uc,cs0]
 ·have:=List.eq_of_mem_replicate hc
  subst this
  exact⟨none,0,rfl,by simp[zg],by omega,Or.inl rfl⟩
set_option maxRecDepth 100000 in
theorem rowof (n:Nat) (hn:n≤570):Calls Tryz.prog 85 #[.int .i64 (n:Int)] W λe w'=>W.grownBy w' none∧∃pb ab tb cs,e = .returned (.pointer (some ⟨pb,0,none⟩))∧W.heap.size≤pb∧W.heap.size≤ab∧W.heap.size≤tb∧pb≠ab∧pb≠tb∧ab≠tb∧Ys w' (λ_=>False) pb ab tb cs (uc n):=by
 go_enter Tryz.func85,Tryz.ntmps85
 go_upto_region 1 with fail
 refine qH (S:=λw':World=>True∧True) ⟨trivial,trivial⟩ (λhHeld=>?_)
 refine qT 0 ?_;refine qT 2 ?_;refine qR [1,3] ?_;refine qC 1 (λK hK=>?_) (qC 3 (λK hK=>?_) qN)
 ·refine ui rfl (Vm _ _ rfl rfl rfl (zav n hn _)) ?_
  refine hK.out _ _ ⟨trivial,trivial⟩ (λhHeld=>?_)
  clear hK K;refine qO 3 λK hK=>?_
  refine ui rfl (Vm _ _ rfl rfl rfl (Vb n (by omega) _)) ?_
  refine hK.out _ _ ⟨trivial,trivial⟩ (λhHeld=>?_)
  clear hK K
  (try simp only[Act.put,List.setIfInBounds_toArray,List.set_cons_zero,List.set_cons_succ])
  have hz0:W.drew.heap.size=W.heap.size:=rfl;have h1:=heap_alloc_new W.drew (.cells ((cs0 n).flatMap ym).toArray 146);have h2:=heap_alloc_new (W.drew.alloc (.cells ((cs0 n).flatMap ym).toArray 146)) (.cells (ul (List.replicate n false)).toArray 4);have hs1:(W.drew.alloc (.cells ((cs0 n).flatMap ym).toArray 146)).heap.size=W.heap.size+1:=by rw[World.size_alloc];rfl
  have hs2:((W.drew.alloc (.cells ((cs0 n).flatMap ym).toArray 146)).alloc (.cells (ul (List.replicate n false)).toArray 4)).heap.size=W.heap.size+2:=by rw[World.size_alloc,hs1]
  have h1':=((ze (W.drew.alloc (.cells ((cs0 n).flatMap ym).toArray 146)) (.cells (ul (List.replicate n false)).toArray 4) none).block _ (by rw[hs1,hz0];omega) (by simp)).trans h1
  have hgr:W.grownBy ((W.drew.alloc (.cells ((cs0 n).flatMap ym).toArray 146)).alloc (.cells (ul (List.replicate n false)).toArray 4)) none:=zp (zp (zj (zi _)) _) _;clear h1;rw[hs1] at h2;rw[hz0] at h1'
  (try rw[hs1])
  (try rw[hz0])
  generalize (W.drew.alloc (.cells ((cs0 n).flatMap ym).toArray 146)).alloc (.cells (ul (List.replicate n false)).toArray 4)=w2 at *;have HR:=zd (zp2 hn h1' h2);rw[hs2] at HR;refine qT 4 ?_ (v:=.agg #[.slice (some ⟨W.heap.size,0,none⟩) n n,.slice (some ⟨W.heap.size+1,0,none⟩) n n]);refine qO 5 λK hK=>?_
  go_simp
  refine hK.out _ _ ⟨trivial,trivial⟩ (λhHeld=>?_)
  clear hK K;refine qT 6 ?_;refine qD ?_
  go_wp2_with fail
  go_ret
  exact⟨zp hgr _,W.heap.size+2,W.heap.size,W.heap.size+1,cs0 n,rfl,by omega,by omega,by omega,by omega,by omega,by omega,HR.out⟩
 ·refine ui rfl (Vm _ _ rfl rfl rfl (Vb n (by omega) _)) ?_
  refine hK.out _ _ ⟨trivial,trivial⟩ (λhHeld=>?_)
  clear hK K;refine qO 1 λK hK=>?_
  refine ui rfl (Vm _ _ rfl rfl rfl (zav n hn _)) ?_;refine hK.out _ _ ⟨trivial,trivial⟩ (λhHeld=>?_)
  clear hK K
  (try simp only[Act.put,List.setIfInBounds_toArray,List.set_cons_zero,List.set_cons_succ])
  have hz0:W.drew.heap.size=W.heap.size:=rfl;have h1:=heap_alloc_new W.drew (.cells (ul (List.replicate n false)).toArray 4);have h2:=heap_alloc_new (W.drew.alloc (.cells (ul (List.replicate n false)).toArray 4)) (.cells ((cs0 n).flatMap ym).toArray 146);have hs1:(W.drew.alloc (.cells (ul (List.replicate n false)).toArray 4)).heap.size=W.heap.size+1:=by rw[World.size_alloc];rfl
  have hs2:((W.drew.alloc (.cells (ul (List.replicate n false)).toArray 4)).alloc (.cells ((cs0 n).flatMap ym).toArray 146)).heap.size=W.heap.size+2:=by rw[World.size_alloc,hs1]
  have h1':=((ze (W.drew.alloc (.cells (ul (List.replicate n false)).toArray 4)) (.cells ((cs0 n).flatMap ym).toArray 146) none).block _ (by rw[hs1,hz0];omega) (by simp)).trans h1
  have hgr:W.grownBy ((W.drew.alloc (.cells (ul (List.replicate n false)).toArray 4)).alloc (.cells ((cs0 n).flatMap ym).toArray 146)) none:=zp (zp (zj (zi _)) _) _;clear h1;rw[hs1] at h2;rw[hz0] at h1'
  (try rw[hs1])
  (try rw[hz0])
  generalize (W.drew.alloc (.cells (ul (List.replicate n false)).toArray 4)).alloc (.cells ((cs0 n).flatMap ym).toArray 146)=w2 at *;have HR:=zd (zp2 hn h2 h1');rw[hs2] at HR;refine qT 4 ?_ (v:=.agg #[.slice (some ⟨W.heap.size+1,0,none⟩) n n,.slice (some ⟨W.heap.size,0,none⟩) n n]);refine qO 5 λK hK=>?_
  go_simp
  refine hK.out _ _ ⟨trivial,trivial⟩ (λhHeld=>?_)
  clear hK K;refine qT 6 ?_;refine qD ?_
  go_wp2_with fail
  go_ret
  exact⟨zp hgr _,W.heap.size+2,W.heap.size+1,W.heap.size,cs0 n,rfl,by omega,by omega,by omega,by omega,by omega,by omega,HR.out⟩
end Go.Proofs.YtbcbhlfjgobejaaGreat
