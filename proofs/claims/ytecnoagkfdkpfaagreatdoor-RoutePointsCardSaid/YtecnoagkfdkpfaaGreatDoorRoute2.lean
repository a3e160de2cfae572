/- Helper text Route2: what some functions of the program do, walked. -/
import Derived.Test.YtecnoagkfdkpfaaGreatDoorRoute1
import Derived.Test.YtecnoagkfdkpfaaGreatDoorW1
namespace Go.Proofs.Zd
open Go.RowKit Go.Cat
abbrev seriesMap : Array MapEntry := #[⟨.string ⟨#[80, 79, 83, 84]⟩, .func (.func 99) #[] #[], 0⟩, ⟨.string ⟨#[71, 69, 84]⟩, .func (.func 100) #[] #[], 1⟩, ⟨.string ⟨#[68, 69, 76, 69, 84, 69]⟩, .func (.func 101) #[] #[], 2⟩]
set_option maxRecDepth 100000 in
set_option maxHeartbeats 400000 in
theorem methods_series (b : Nat) (w : World) (h0 : w.cell? ⟨b, 0, none⟩ = some (.string ⟨#[115, 101, 114, 105, 101, 115]⟩)) (_h1 : w.cell? ⟨b, 1, none⟩ = some (.string ⟨#[99, 112, 117]⟩)) :
    Calls Tryz.prog 63 #[.slice (some ⟨b, 0, none⟩) 2 2] w fun e w' => e = .returned (.tuple #[.map (some w.heap.size), .bool false]) ∧
      w' = w.alloc (.map seriesMap 3) := by
  have hmm := @run_makeMap Tryz.prog
  have k1 := run_mapUpdate_alloc (P := Tryz.prog) (T := 124) (K := 9) (E := 128) Tryz.underlying124 Tryz.underlying9 ⟨#[80, 79, 83, 84]⟩ (.func (.func 99) #[] #[]) #[] 0 w (by kernel_rfl)
  have k2 := run_mapUpdate_alloc (P := Tryz.prog) (T := 124) (K := 9) (E := 128) Tryz.underlying124 Tryz.underlying9 ⟨#[71, 69, 84]⟩ (.func (.func 100) #[] #[]) #[⟨.string ⟨#[80, 79, 83, 84]⟩, .func (.func 99) #[] #[], 0⟩] 1 w (by kernel_rfl)
  have k3 := run_mapUpdate_alloc (P := Tryz.prog) (T := 124) (K := 9) (E := 128) Tryz.underlying124 Tryz.underlying9 ⟨#[68, 69, 76, 69, 84, 69]⟩ (.func (.func 101) #[] #[]) #[⟨.string ⟨#[80, 79, 83, 84]⟩, .func (.func 99) #[] #[], 0⟩, ⟨.string ⟨#[71, 69, 84]⟩, .func (.func 100) #[] #[], 1⟩] 2 w (by kernel_rfl)
  simp only [List.push_toArray, List.cons_append, List.nil_append, Nat.reduceAdd] at k1 k2 k3
  go_enter Tryz.func63, Tryz.ntmps63
  go_wp2
  go_ret2
  exact ⟨rfl, rfl⟩
end Go.Proofs.Zd
