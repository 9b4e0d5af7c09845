/- The ids of a vault, in order: IDs: the walk. Conditions: none, or as the theorems say. -/
import Derived.Test.YtbcbhlfjgobejaaGreatM40
set_option linter.unusedSimpArgs false
set_option linter.unusedVariables false
namespace Go.Proofs.YtbcbhlfjgobejaaGreat
set_option maxHeartbeats 200000000
open Go.RowKit Go.Sf Go.Shelf Go.Maps Go.Sort Go.Lib
section
variable {own : Nat → Prop} {W : World} {vb st db mb : Nat} {km : List (VID × KpM)} {vk : Nat → Prop} {V : Vlt}
set_option maxRecDepth 100000 in
theorem vids (h:VAt own W vb st db mb km vk V) (hl:V.sh.length≤1000000) :
  Calls Tryz.prog 78 #[.pointer (some ⟨vb,0,none⟩)] W fun e w'=>∃v l,e = .returned v∧zgm W.heap.size w' v l∧l.Perm (V.sh.map (·.1))∧zav l∧W.grownBy w' none:=by
 obtain⟨c0,c1,c2,c3,c4,y⟩:=h.cells;have hk:km.map (·.1)=V.sh.map (·.1):=by rw[h.she,List.map_map];rfl
 have HK:=zd hk;have HL:Hid (km.length≤1000000):=zd (by rw[h.she,List.length_map] at hl;exact hl)
 have HM:=zd h.mp;clear h hl hk c0 c1 c2 c4 y
 go_enter Tryz.func78,Tryz.ntmps78
 go_wp2_with (first
   | (go_at_call 155;refine(zjb (some mb) _).mono ?_;rintro e w1 ⟨rfl,rfl⟩)
   | (go_at_call 154;have hq:=zfz W.heap.size mb km (W.alloc (.cells #[.map (some mb)] 221)) (by simp[go_sem]) (by simp[go_sem]) (HM.out.kept (zg _ _ none) (by simp)) HL.out;refine hq.mono ?_;rintro e w2 ⟨v,l,rfl,hv,hg⟩;have HV:=zd (And.intro hv hg);clear hv hg))
 go_ret
 obtain⟨⟨h1,h2,h3,h4⟩,hg⟩:=HV.out
 exact⟨v,l,rfl,⟨h1.1,h1.2.imp id (fun ⟨g,cap,cur,a1,a2,a3⟩=>⟨g,cap,cur,a1,Nat.le_trans (by simp) a2,a3⟩)⟩,HK.out ▸ h2,h3,zp (zg _ _ _) hg⟩
theorem zmh (h:VAt own W vb st db mb km vk V) (hl:V.sh.length≤1000000) :
  Calls Tryz.prog 78 #[.pointer (some ⟨vb,0,none⟩)] W fun e w'=>∃p c,e = .returned (.slice p V.sh.length c)∧W.grownBy w' none:=by
 refine(vids h hl).mono ?_;rintro e w' ⟨v,l,rfl,h1,h2,h3,hg⟩;have hn:l.length=V.sh.length:=by rw[h2.length_eq,List.length_map]
 rcases h1.2 with ⟨rfl,h0⟩|⟨g,cap,cur,rfl,-⟩
 ·exact⟨none,0,by rw[←hn,h0],hg⟩
 ·exact⟨_,cap,by rw[hn],hg⟩
end
end Go.Proofs.YtbcbhlfjgobejaaGreat
