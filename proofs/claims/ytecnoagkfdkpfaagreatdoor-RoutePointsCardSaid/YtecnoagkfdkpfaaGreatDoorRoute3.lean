/- Helper text Route3: what some functions of the program do, walked. -/
import Derived.Test.YtecnoagkfdkpfaaGreatDoorRoute2
namespace Go.Proofs.Zd
open Go.RowKit Go.Cat
set_option maxHeartbeats 400000 in
theorem ask_any (k : Int) (w : World) :
    Calls Tryz.prog 98 #[.int .i64 k] w fun e w' => e = .returned (.func (.func 149) #[] #[.pointer (some ⟨w.heap.size, 0, none⟩)]) ∧ w' = w.alloc (.cells #[.int .i64 k] 3) := by
  go_enter Tryz.func98, Tryz.ntmps98
  go_wp2
  go_ret
  exact ⟨rfl, rfl⟩
set_option maxRecDepth 100000 in
set_option maxHeartbeats 400000 in
theorem methods_audit (b : Nat) (w : World) (h0 : w.cell? ⟨b, 0, none⟩ = some (.string ⟨#[97, 117, 100, 105, 116]⟩)) :
    Calls Tryz.prog 63 #[.slice (some ⟨b, 0, none⟩) 1 1] w fun e w' => ∃ v, e = .returned (.tuple #[.map (some w.heap.size), .bool false]) ∧
      w' = (w.alloc (.map #[⟨.string ⟨#[71, 69, 84]⟩, v, 0⟩] 1)).alloc (.cells #[.int .i64 5] 3) := by
  have hmm := @run_makeMap Tryz.prog
  have k1 := fun v o => run_mapUpdate_under (P := Tryz.prog) (T := 124) (K := 9) (E := 128) Tryz.underlying124 Tryz.underlying9 ⟨#[71, 69, 84]⟩ v #[] 0 w o (by kernel_rfl)
  simp only [List.push_toArray, List.nil_append, Nat.reduceAdd] at k1
  go_enter Tryz.func63, Tryz.ntmps63
  go_wp2_with (go_at_call 98; refine (ask_any _ _).mono ?_; rintro e w' ⟨rfl, rfl⟩)
  go_ret2
  exact ⟨_, rfl, rfl⟩
end Go.Proofs.Zd
