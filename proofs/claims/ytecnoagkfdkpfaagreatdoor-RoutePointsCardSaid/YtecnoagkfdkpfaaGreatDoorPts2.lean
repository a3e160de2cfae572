/- Helper text Pts2: what some functions of the program do, walked. -/
import Derived.Test.YtecnoagkfdkpfaaGreatDoorPts1
namespace Go.Proofs.Zd
open Go.RowKit Go.Cat
abbrev zeroV : Array Value := #[.int .i64 0, .bool false, .int .i64 0, .string ⟨#[]⟩, .slice none 0 0, .slice none 0 0]
set_option maxRecDepth 100000 in
set_option maxHeartbeats 1000000 in
/-- no rows -/
theorem points_nil (w : World) :
    Calls Tryz.prog 14 #[.agg (rowV (.slice none 0 0))] w fun e w' => e = .returned (.tuple #[.slice none 0 0, .bool true]) ∧ Up w w' := by
  go_enter Tryz.func14, Tryz.ntmps14
  go_wp2
  have hu0 : Up w (w.alloc (.cells (rowV (.slice none 0 0)) 30)) := (Up.refl _).alloc _
  go_loopw [4, 13] (fun s4 s13 wr => s4 = .slice none 0 0 ∧ s13 = .int .i64 0 ∧ Up w wr) (fun _ _ _ => 0)
  case atStart => exact ⟨rfl, rfl, hu0⟩
  case round =>
    obtain ⟨rfl, rfl, hb⟩ := hrel
    go_wp2_with (fail)
    exact bodyPost_ret (v := .tuple #[.slice none 0 0, .bool true]) (res_two (fn := Tryz.f14) (p := 2) (q := 3) rfl _ _) rfl ⟨rfl, hb⟩
set_option maxRecDepth 100000 in
set_option maxHeartbeats 1000000 in
/-- a value of no kind -/
theorem points_zero (w : World) :
    Calls Tryz.prog 14 #[.agg zeroV] w fun e w' => e = .returned (.tuple #[.slice none 0 0, .bool false]) ∧ Up w w' := by
  go_enter Tryz.func14, Tryz.ntmps14
  go_wp2
  exact bodyPost_ret (v := .tuple #[.slice none 0 0, .bool false]) (res_two (fn := Tryz.f14) (p := 2) (q := 3) rfl _ _) rfl ⟨rfl, (Up.refl _).alloc _⟩
end Go.Proofs.Zd
