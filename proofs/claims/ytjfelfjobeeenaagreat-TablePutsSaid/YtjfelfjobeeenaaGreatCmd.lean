/- The commands: what 'bare' and 'may' answer. Conditions: the fields' ranges. -/
import Derived.Test.YtjfelfjobeeenaaGreatExt
import Derived.Test.YtjfelfjobeeenaaGreatChecked
import Derived.WalkLawsBesides
import Derived.WalkSpells
import Derived.Deep.RegionWith
import Derived.Outline
namespace Go.Proofs.YtjfelfjobeeenaaGreat
open Go.RowKit Go.Sf
set_option linter.unusedVariables false

structure Cmd where
  kind : Int
  node : Int
  client : Int
  inc : Int
  req : Int
  ver : Int
  key : ByteArray
  code : Int
  deriving DecidableEq
def encCmd (c : Cmd) : Value := .agg #[.int .u8 c.kind, .int .i64 c.node, .int .i64 c.client, .int .i64 c.inc, .int .i64 c.req, .int .i64 c.ver, .string c.key, .int .i64 c.code]
def bareC (c : Cmd) : Cmd :=
  if c.kind = 2 then ⟨2, c.node, 0, c.inc, 0, 0, ⟨#[]⟩, 0⟩
  else if c.kind = 4 ∨ c.kind = 5 then ⟨c.kind, c.node, 0, c.inc, 0, c.ver, c.key, 0⟩
  else if c.kind = 3 ∨ c.kind = 6 then ⟨c.kind, 0, c.client, 0, c.req, 0, c.key, 0⟩
  else if c.kind = 7 then ⟨7, 0, c.client, 0, c.req, 0, ⟨#[]⟩, c.code⟩
  else ⟨c.kind, 0, 0, 0, 0, 0, ⟨#[]⟩, 0⟩

set_option maxHeartbeats 1000000 in
theorem bare_2 (node client inc req ver code : Int) (key : ByteArray) (w : World) :
    Calls Tryz.prog 106 #[encCmd ⟨2, node, client, inc, req, ver, key, code⟩] w fun e w' => e = .returned (encCmd (bareC ⟨2, node, client, inc, req, ver, key, code⟩)) ∧ w.grownBy w' none := by
  simp only [encCmd, bareC]
  go_enter Tryz.func106, Tryz.ntmps106
  go_wp2
  go_region
  go_wp2
  exact bodyPost_ret (v := .agg #[.int .u8 2, .int .i64 node, .int .i64 0, .int .i64 inc, .int .i64 0, .int .i64 0, .string ⟨#[]⟩, .int .i64 0]) (by simp [results, Tryz.results106, go_sem]) rfl ⟨rfl, by repeat (first | exact grown_refl _ | exact World.grownBy_alloc _ _ _ | refine grown_alloc ?_ _ | refine grown_drew ?_)⟩
set_option maxHeartbeats 1000000 in
theorem bare_4 (node client inc req ver code : Int) (key : ByteArray) (w : World) :
    Calls Tryz.prog 106 #[encCmd ⟨4, node, client, inc, req, ver, key, code⟩] w fun e w' => e = .returned (encCmd (bareC ⟨4, node, client, inc, req, ver, key, code⟩)) ∧ w.grownBy w' none := by
  simp only [encCmd, bareC]
  go_enter Tryz.func106, Tryz.ntmps106
  go_wp2
  go_region
  go_wp2
  exact bodyPost_ret (v := .agg #[.int .u8 4, .int .i64 node, .int .i64 0, .int .i64 inc, .int .i64 0, .int .i64 ver, .string key, .int .i64 0]) (by simp [results, Tryz.results106, go_sem]) rfl ⟨rfl, by repeat (first | exact grown_refl _ | exact World.grownBy_alloc _ _ _ | refine grown_alloc ?_ _ | refine grown_drew ?_)⟩
set_option maxHeartbeats 1000000 in
theorem bare_5 (node client inc req ver code : Int) (key : ByteArray) (w : World) :
    Calls Tryz.prog 106 #[encCmd ⟨5, node, client, inc, req, ver, key, code⟩] w fun e w' => e = .returned (encCmd (bareC ⟨5, node, client, inc, req, ver, key, code⟩)) ∧ w.grownBy w' none := by
  simp only [encCmd, bareC]
  go_enter Tryz.func106, Tryz.ntmps106
  go_wp2
  go_region
  go_wp2
  exact bodyPost_ret (v := .agg #[.int .u8 5, .int .i64 node, .int .i64 0, .int .i64 inc, .int .i64 0, .int .i64 ver, .string key, .int .i64 0]) (by simp [results, Tryz.results106, go_sem]) rfl ⟨rfl, by repeat (first | exact grown_refl _ | exact World.grownBy_alloc _ _ _ | refine grown_alloc ?_ _ | refine grown_drew ?_)⟩
set_option maxHeartbeats 1000000 in
theorem bare_3 (node client inc req ver code : Int) (key : ByteArray) (w : World) :
    Calls Tryz.prog 106 #[encCmd ⟨3, node, client, inc, req, ver, key, code⟩] w fun e w' => e = .returned (encCmd (bareC ⟨3, node, client, inc, req, ver, key, code⟩)) ∧ w.grownBy w' none := by
  simp only [encCmd, bareC]
  go_enter Tryz.func106, Tryz.ntmps106
  go_wp2
  go_region
  go_wp2
  exact bodyPost_ret (v := .agg #[.int .u8 3, .int .i64 0, .int .i64 client, .int .i64 0, .int .i64 req, .int .i64 0, .string key, .int .i64 0]) (by simp [results, Tryz.results106, go_sem]) rfl ⟨rfl, by repeat (first | exact grown_refl _ | exact World.grownBy_alloc _ _ _ | refine grown_alloc ?_ _ | refine grown_drew ?_)⟩
set_option maxHeartbeats 1000000 in
theorem bare_6 (node client inc req ver code : Int) (key : ByteArray) (w : World) :
    Calls Tryz.prog 106 #[encCmd ⟨6, node, client, inc, req, ver, key, code⟩] w fun e w' => e = .returned (encCmd (bareC ⟨6, node, client, inc, req, ver, key, code⟩)) ∧ w.grownBy w' none := by
  simp only [encCmd, bareC]
  go_enter Tryz.func106, Tryz.ntmps106
  go_wp2
  go_region
  go_wp2
  exact bodyPost_ret (v := .agg #[.int .u8 6, .int .i64 0, .int .i64 client, .int .i64 0, .int .i64 req, .int .i64 0, .string key, .int .i64 0]) (by simp [results, Tryz.results106, go_sem]) rfl ⟨rfl, by repeat (first | exact grown_refl _ | exact World.grownBy_alloc _ _ _ | refine grown_alloc ?_ _ | refine grown_drew ?_)⟩
set_option maxHeartbeats 1000000 in
theorem bare_7 (node client inc req ver code : Int) (key : ByteArray) (w : World) :
    Calls Tryz.prog 106 #[encCmd ⟨7, node, client, inc, req, ver, key, code⟩] w fun e w' => e = .returned (encCmd (bareC ⟨7, node, client, inc, req, ver, key, code⟩)) ∧ w.grownBy w' none := by
  simp only [encCmd, bareC]
  go_enter Tryz.func106, Tryz.ntmps106
  go_wp2
  go_region
  go_wp2
  exact bodyPost_ret (v := .agg #[.int .u8 7, .int .i64 0, .int .i64 client, .int .i64 0, .int .i64 req, .int .i64 0, .string ⟨#[]⟩, .int .i64 code]) (by simp [results, Tryz.results106, go_sem]) rfl ⟨rfl, by repeat (first | exact grown_refl _ | exact World.grownBy_alloc _ _ _ | refine grown_alloc ?_ _ | refine grown_drew ?_)⟩
set_option maxHeartbeats 1000000 in
theorem bare_1 (node client inc req ver code : Int) (key : ByteArray) (w : World) :
    Calls Tryz.prog 106 #[encCmd ⟨1, node, client, inc, req, ver, key, code⟩] w fun e w' => e = .returned (encCmd (bareC ⟨1, node, client, inc, req, ver, key, code⟩)) ∧ w.grownBy w' none := by
  simp only [encCmd, bareC]
  go_enter Tryz.func106, Tryz.ntmps106
  go_wp2
  exact bodyPost_ret (v := .agg #[.int .u8 1, .int .i64 0, .int .i64 0, .int .i64 0, .int .i64 0, .int .i64 0, .string ⟨#[]⟩, .int .i64 0]) (by simp [results, Tryz.results106, go_sem]) rfl ⟨rfl, by repeat (first | exact grown_refl _ | exact World.grownBy_alloc _ _ _ | refine grown_alloc ?_ _ | refine grown_drew ?_)⟩
theorem bare_any (c : Cmd) (h1 : 1 ≤ c.kind) (h7 : c.kind ≤ 7) (w : World) :
    Calls Tryz.prog 106 #[encCmd c] w fun e w' => e = .returned (encCmd (bareC c)) ∧ w.grownBy w' none := by
  obtain ⟨kind, node, client, inc, req, ver, key, code⟩ := c
  simp only at h1 h7
  have h : kind = 1 ∨ kind = 2 ∨ kind = 3 ∨ kind = 4 ∨ kind = 5 ∨ kind = 6 ∨ kind = 7 := by omega
  rcases h with rfl | rfl | rfl | rfl | rfl | rfl | rfl
  · exact bare_1 _ _ _ _ _ _ _ _
  · exact bare_2 _ _ _ _ _ _ _ _
  · exact bare_3 _ _ _ _ _ _ _ _
  · exact bare_4 _ _ _ _ _ _ _ _
  · exact bare_5 _ _ _ _ _ _ _ _
  · exact bare_6 _ _ _ _ _ _ _ _
  · exact bare_7 _ _ _ _ _ _ _ _
end Go.Proofs.YtjfelfjobeeenaaGreat
