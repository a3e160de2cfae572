/- Helper text Lives32: what some functions of the program do, walked. -/
import Derived.Test.YtecnoagkfdkpfaaGreatDoorRoute7
namespace Go.Proofs.Zd
open Go.RowKit Go.Cat
set_option maxRecDepth 100000 in
set_option maxHeartbeats 1000000 in
theorem lives32 (w : World) (hE : Env w) :
    Calls Tryz.prog 10 #[] w fun e w' => e = .returned (.bool true) ∧ Up w w' := by
  go_enter Tryz.func10, Tryz.ntmps10
  go_wp2_with fail
  have hA0 := At.new w #[.string ⟨#[116, 105, 101, 114]⟩, .string ⟨#[109, 105, 100]⟩, .string ⟨#[102, 114, 111, 109]⟩, .string ⟨#[48]⟩, .string ⟨#[116, 111]⟩, .string ⟨#[57]⟩] 81
  have hl0 := SliceOf.of_at (l := lQ) encPair_len hA0 rfl 3 rfl (by decide) (by decide)
  have hu0 : Up w (w.alloc (.cells #[.string ⟨#[116, 105, 101, 114]⟩, .string ⟨#[109, 105, 100]⟩, .string ⟨#[102, 114, 111, 109]⟩, .string ⟨#[48]⟩, .string ⟨#[116, 111]⟩, .string ⟨#[57]⟩] 81)) := (Up.refl _).alloc _
  have C1 := Lib.hid (Of_series _ (.slice none 0 0) (.slice none 0 0) _ hl0 (hE.up hu0))
  clear hA0 hl0
  refine C1.out.mono ?_
  clear C1
  rintro e w1 ⟨rfl, hu1⟩
  have hu := hu0.trans hu1
  clear hu0 hu1
  have hz77 : (zeroValue 77).run Tryz.prog = fun w => .ok (.agg errand0) w := by kernel_rfl
  have hX := (At.new w1 errand0 77).setRow errandS
  have hUX : Up w1 ((w1.alloc (.cells errand0 77)).setRow w1.heap.size errandS) := By.to_up (Up.refl w1) ((By.of_up ((Up.refl w1).alloc _) w1.heap.size).setRow errandS) (Nat.le_refl _)
  go_wp2_with (first | (refine wpList_store_row rfl 77 (.tmp 1) (.tmp 12) rfl w1.heap.size errandS rfl (by kernel_rfl) 77 errand0 (At.new w1 errand0 77) (by kernel_rfl) rfl (by kernel_rfl) ?_))
  generalize hW : (w1.alloc (.cells errand0 77)).setRow w1.heap.size errandS = W at *
  clear hW
  have hUW := hu.trans hUX
  have C2 := Lib.hid (Of_audit (.slice none 0 0) (.slice none 0 0) (.slice none 0 0) W (hE.up hUW))
  refine C2.out.mono ?_
  clear C2
  rintro e w2 ⟨rfl, hu2⟩
  have hX2 := hX.up hu2
  have hU2 := hUW.trans hu2
  clear hX hUX hu hUW hu2 hE
  have hX3 := hX2.up ((Up.refl w2).alloc (.cells errand0 77))
  have hX4 := hX3.grown (row := some w2.heap.size) ((By.refl _ w2.heap.size).setRow errand0) (by have := hX2.lt; simp; omega)
  have hU4 : Up w ((w2.alloc (.cells errand0 77)).setRow w2.heap.size errand0) := By.to_up hU2 ((By.of_up ((Up.refl w2).alloc _) w2.heap.size).setRow errand0) hU2.size
  go_upto_region 3 with (first | (refine wpList_store_row rfl 77 (.tmp 3) (.tmp 17) rfl w2.heap.size errand0 rfl (by kernel_rfl) 77 errand0 (At.new w2 errand0 77) (by kernel_rfl) rfl (by kernel_rfl) ?_))
  generalize hW : (w2.alloc (.cells errand0 77)).setRow w2.heap.size errand0 = W4 at *
  clear hW hX2 hX3 hU2
  have k0 := hX4.cell 0
  have k19 := hX4.cell 19
  have k20 := hX4.cell 20
  have k21 := hX4.cell 21
  have k22 := hX4.cell 22
  simp only [errandS, List.getElem?_toArray, List.getElem?_cons_zero, List.getElem?_cons_succ] at k0 k19 k20 k21 k22
  have HU := Lib.hid hU4
  clear hX4 hU4
  go_wp2
  go_ret
  exact ⟨rfl, HU.out⟩
end Go.Proofs.Zd
