/- Helper text Pts0: what some functions of the program do, walked. -/
import Derived.Test.YtecnoagkfdkpfaaGreatDoorEnv
import Derived.Deep.RegionHeld3
import Derived.Deep.DeepCutAuto
namespace Go.Proofs.Zd
open Go.RowKit Go.Cat
abbrev numV (n : Int) : Array Value := #[.int .i64 2, .bool false, .int .i64 n, .string ⟨#[]⟩, .slice none 0 0, .slice none 0 0]
abbrev rowV (v : Value) : Array Value := #[.int .i64 4, .bool false, .int .i64 0, .string ⟨#[]⟩, v, .slice none 0 0]
set_option maxHeartbeats 400000 in
theorem num_any (n : Int) (w : World) :
    Calls Tryz.prog 13 #[.int .i64 n] w fun e w' => e = .returned (.agg (numV n)) ∧ Up w w' := by
  go_enter Tryz.func13, Tryz.ntmps13
  go_wp2
  refine bodyPost_ret (v := .agg (numV n)) ?_ rfl ⟨rfl, (Up.refl _).alloc _⟩
  exact results_cell_row (fn := Tryz.f13) (p := 2) (ty := 30) rfl _ _ w.heap.size 30 (numV n) (0, 0) _ rfl (At.new w _ 30) Tryz.underlying30 rfl (by kernel_rfl)
end Go.Proofs.Zd
