/- Helper text Route5: what some functions of the program do, walked. -/
import Derived.Test.YtecnoagkfdkpfaaGreatDoorRoute4
import Derived.Test.YtecnoagkfdkpfaaGreatDoorW2
import Derived.StillTailTactics
namespace Go.Proofs.Zd
open Go.RowKit Go.Cat
abbrev sTier : ByteArray := ⟨#[116, 105, 101, 114]⟩
set_option maxRecDepth 100000 in
set_option maxHeartbeats 400000 in
/-- askSeries, where all is as it should be -/
theorem askSeries_yes (l : List (ByteArray × ByteArray)) (m p nm : ByteArray) (v hd bd : Value) (bx : Nat) (c0 c1 c2 c3 c4 c5 c6 c7 c8 c9 c10 c11 c12 c13 c14 c15 c16 c17 c18 c19 c20 c21 c22 : Value) (w : World) (hl : SliceOf 2 encPair w v l) (hE : Env w)
    (hs1 : (lookP sFrom l).1.size ≤ 281474976710656) (hs2 : (lookP sTo l).1.size ≤ 281474976710656)
    (hx : At w bx #[c0, c1, c2, c3, c4, c5, c6, c7, c8, c9, c10, c11, c12, c13, c14, c15, c16, c17, c18, c19, c20, c21, c22] 77)
    (hb8 : 8 < bx) (hnv : NotIn bx v) (ht : (lookP sTier l).2 = true) (hok : (tierOf (lookP sTier l).1.data.toList).2 = true) :
    Calls Tryz.prog 100 #[.agg #[.string m, .string p, v, hd, bd], .string nm, .pointer (some ⟨bx, 0, none⟩)] w fun e w' => e = .returned (.bool (spanOk l 3)) ∧ By w w' bx ∧
      At w' bx #[.int .i64 1, c1, c2, c3, c4, c5, c6, c7, c8, c9, c10, c11, c12, c13, c14, c15, c16, c17, c18, .string nm, .int .i64 (tierOf (lookP sTier l).1.data.toList).1, .int .i64 (numOf (lookP sFrom l).1.data.toList).1, .int .i64 (numOf (lookP sTo l).1.data.toList).1] 77 := by
  go_enter Tryz.func100, Tryz.ntmps100
  go_wp2_with fail
  refine (value_any l sTier v _ (hl.up encPair_len ((Up.refl _).alloc _))).mono ?_
  rintro e w1 ⟨rfl, hu1⟩
  have hu : Up w w1 := ((Up.refl _).alloc _).trans hu1
  go_wp2_with fail
  refine (tier_any _ _).mono ?_
  rintro e w2 ⟨rfl, rfl⟩
  have hx1 := hx.up hu
  have k0 := hx1.cell 0
  have k19 := hx1.cell 19
  have k20 := hx1.cell 20
  simp only [List.getElem?_toArray, List.getElem?_cons_zero, List.getElem?_cons_succ] at k0 k19 k20
  have f0 := hx1.froz 0
  have f19 := hx1.froz 19
  have f20 := hx1.froz 20
  have hB0 := (At.new w #[.string m, .string p, v, hd, bd] 63).up hu1
  have hl1 : SliceOf 2 encPair w1 v l := hl.up encPair_len hu
  have hE1 := hE.up hu
  have hby1 : By w w1 bx := By.of_up hu bx
  have hne : bx ≠ w.heap.size := Nat.ne_of_lt hx.lt
  clear hu1 hl hE hx hu
  go_wp2_with fail
  have hX := ((hx1.set 0 (.int .i64 1)).set 19 (.string nm)).set 20 (.int .i64 (tierOf (lookP sTier l).1.data.toList).1)
  have hY := ((hby1.set 0 (.int .i64 1)).set 19 (.string nm)).set 20 (.int .i64 (tierOf (lookP sTier l).1.data.toList).1)
  have hZ : By w1 (((w1.setCell ⟨bx, 0, none⟩ (.int .i64 1)).setCell ⟨bx, 19, none⟩ (.string nm)).setCell ⟨bx, 20, none⟩ (.int .i64 (tierOf (lookP sTier l).1.data.toList).1)) bx := (((By.refl w1 bx).set 0 _).set 19 _).set 20 _
  generalize ((w1.setCell ⟨bx, 0, none⟩ (.int .i64 1)).setCell ⟨bx, 19, none⟩ (.string nm)).setCell ⟨bx, 20, none⟩ (.int .i64 (tierOf (lookP sTier l).1.data.toList).1) = W at *
  have hB := hB0.grown hZ (by simpa using fun e => hne e.symm)
  have kb := hB.cell 2
  simp only [List.getElem?_toArray, List.getElem?_cons_zero, List.getElem?_cons_succ] at kb
  have C := Lib.hid (span_any l v 3 bx 21 c21 c22 W.drew ((hl1.by_ encPair_len hZ hnv).up encPair_len ((Up.refl W).drew)) ((hE1.by_ hZ hb8).up ((Up.refl W).drew)) hs1 hs2 (hX.drew.cell 21) (hX.drew.cell 22) (hX.drew.froz 21) (hX.drew.froz 22))
  clear hl1 hE1 k0 k19 k20 f0 f19 f20 hx1 hby1 hZ hB hB0
  go_still_tail 10, (by kernel_rfl)
  go_wp2_with fail
  refine C.out.mono ?_
  rintro e w3 ⟨rfl, w4, hu4, rfl⟩
  go_wp2
  go_ret
  have hX4 := hX.drew.up hu4
  refine ⟨rfl, ((hY.drew.up hu4).set 21 _).set 22 _, ?_⟩
  exact (hX4.set 21 _).set 22 _
end Go.Proofs.Zd
