/- Helper text Pts3: what some functions of the program do, walked. -/
import Derived.Test.YtecnoagkfdkpfaaGreatDoorPts2
import Derived.Test.YtecnoagkfdkpfaaGreatDoorLives32
import Derived.StillTactics
namespace Go.Proofs.Zd
open Go.RowKit Go.Cat
set_option maxRecDepth 100000 in
set_option maxHeartbeats 1000000 in
/-- more than sixty points -/
theorem pts_long (ad : Option Addr) (n cap : Nat) (a b : Int) (w : World) (h : 60 < n) (hE : Env w) :
    Calls Tryz.prog 4 #[.slice ad n cap, .int .u8 a, .int .u8 b] w fun e w' => e = .returned (.bool true) ∧ Up w w' := by
  go_enter Tryz.func4, Tryz.ntmps4
  go_wp2_with fail
  refine (lives32 w hE).mono ?_
  rintro e w1 ⟨rfl, hu1⟩
  have hE1 := hE.up hu1
  go_wp2_with fail
  refine (lives32 w1 hE1).mono ?_
  rintro e w2 ⟨rfl, hu2⟩
  go_wp2
  go_ret
  exact ⟨rfl, hu1.trans hu2⟩
set_option maxRecDepth 100000 in
set_option maxHeartbeats 1000000 in
/-- no points -/
theorem pts_none (ad : Option Addr) (cap : Nat) (a b : Int) (w : World) (hE : Env w) :
    Calls Tryz.prog 4 #[.slice ad 0 cap, .int .u8 a, .int .u8 b] w fun e w' => e = .returned (.bool true) ∧ Up w w' := by
  go_enter Tryz.func4, Tryz.ntmps4
  go_wp2_with fail
  refine (lives32 w hE).mono ?_
  rintro e w1 ⟨rfl, hu1⟩
  clear hE
  go_wp2_with fail
  have hu2 := hu1.alloc (.cells (rowV (.slice none 0 0)) 30)
  have hA2 := At.new w1 (rowV (.slice none 0 0)) 30
  generalize hW : w1.alloc (.cells _ 30) = w2 at *
  go_loopw [32] (fun s32 wr => s32 = .int .i64 0 ∧ wr = w2) (fun _ _ => 0)
  case atStart => exact ⟨rfl, rfl⟩
  case round =>
    obtain ⟨rfl, rfl⟩ := hrel
    clear hW
    have k0 := hA2.cell 0
    have k1 := hA2.cell 1
    have k2 := hA2.cell 2
    have k3 := hA2.cell 3
    have k4 := hA2.cell 4
    have k5 := hA2.cell 5
    simp only [rowV, List.getElem?_toArray, List.getElem?_cons_zero, List.getElem?_cons_succ] at k0 k1 k2 k3 k4 k5
    go_wp2_with fail
    refine (points_nil wr).mono ?_
    rintro e w3 ⟨rfl, hu3⟩
    have hU3 := hu2.trans hu3
    have hA3 := hA2.up hu3
    clear k0 k1 k2 k3 k4 k5 hA2 hu2 hu3
    go_wp2_with fail
    go_loopw [68] (fun s68 wr => s68 = .int .i64 0 ∧ wr = w3) (fun _ _ => 0)
    case atStart => exact ⟨rfl, rfl⟩
    case round =>
      obtain ⟨rfl, rfl⟩ := hrel
      have k0 := hA3.cell 0
      have k1 := hA3.cell 1
      have k2 := hA3.cell 2
      have k3 := hA3.cell 3
      have k4 := hA3.cell 4
      have k5 := hA3.cell 5
      simp only [rowV, List.getElem?_toArray, List.getElem?_cons_zero, List.getElem?_cons_succ] at k0 k1 k2 k3 k4 k5
      go_wp2_with fail
      refine (points_nil _).mono ?_
      rintro e w5 ⟨rfl, hu5⟩
      have hU5 := hU3.trans hu5
      clear k0 k1 k2 k3 k4 k5 hU3 hu5 hA3
      go_wp2_with fail
      refine wp_region_still_lit (by kernel_rfl) (by kernel_rfl) ?_
      iterate 14 still_step
      iterate 7 (rw [wpStill]; generalize hK : wpStill Tryz.prog _ _ _ _ = K; go_simp; rw [← hK]; clear hK K)
      still_step
      still_step
      refine wpStill_nil ?_
      go_wp2_with fail
      refine (points_zero _).mono ?_
      rintro e w7 ⟨rfl, hu7⟩
      have hU7 := hU5.drew.trans hu7
      go_wp2
      go_ret
      exact ⟨rfl, hU7⟩
end Go.Proofs.Zd
