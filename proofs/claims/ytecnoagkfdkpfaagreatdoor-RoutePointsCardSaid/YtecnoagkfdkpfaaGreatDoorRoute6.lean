/- Helper text Route6: what some functions of the program do, walked. -/
import Derived.Test.YtecnoagkfdkpfaaGreatDoorRoute5
import Derived.Deep.WholeRow
import Derived.Maps.RangeWalk
namespace Go.Proofs.Zd
open Go.RowKit Go.Cat
abbrev lQ : List (ByteArray × ByteArray) := [(sTier, ⟨#[109, 105, 100]⟩), (sFrom, ⟨#[48]⟩), (sTo, ⟨#[57]⟩)]
abbrev pathS : ByteArray := ⟨#[47, 115, 101, 114, 105, 101, 115, 47, 99, 112, 117]⟩
theorem countS : Lib.countB ⟨(Lib.trimPrefix pathS.data.toList [47]).toArray⟩ ⟨#[47]⟩ = 1 := by decide +kernel
theorem partsS : partsOf pathS.data.toList = [⟨#[115, 101, 114, 105, 101, 115]⟩, ⟨#[99, 112, 117]⟩] := by decide +kernel
theorem qTier : lookP sTier lQ = (⟨#[109, 105, 100]⟩, true) := by decide +kernel
theorem qFrom : lookP sFrom lQ = (⟨#[48]⟩, true) := by decide +kernel
theorem qTo : lookP sTo lQ = (⟨#[57]⟩, true) := by decide +kernel
theorem n0 : numOf [48] = (0, true) := by decide +kernel
theorem n9 : numOf [57] = (9, true) := by decide +kernel
theorem tMid : tierOf [109, 105, 100] = (1, true) := by decide +kernel
theorem okQ : spanOk lQ 3 = true := by unfold spanOk; rw [qFrom, qTo]; simp only []; rw [n0, n9]; rfl
abbrev errand0 : Array Value := #[.int .i64 0, .bool false, .int .i64 0, .string ⟨#[]⟩, .string ⟨#[]⟩, .string ⟨#[]⟩, .slice none 0 0, .int .i64 0, .int .i64 0, .int .i64 0, .int .i64 0, .int .i64 0, .string ⟨#[]⟩, .string ⟨#[]⟩, .int .i64 0, .int .i64 0, .int .i64 0, .int .i64 0, .int .i64 0, .string ⟨#[]⟩, .int .i64 0, .int .i64 0, .int .i64 0]
abbrev errandS : Array Value := #[.int .i64 1, .bool false, .int .i64 0, .string ⟨#[]⟩, .string ⟨#[]⟩, .string ⟨#[]⟩, .slice none 0 0, .int .i64 0, .int .i64 0, .int .i64 0, .int .i64 0, .int .i64 0, .string ⟨#[]⟩, .string ⟨#[]⟩, .int .i64 0, .int .i64 0, .int .i64 0, .int .i64 0, .int .i64 0, .string ⟨#[99, 112, 117]⟩, .int .i64 1, .int .i64 0, .int .i64 9]
set_option maxRecDepth 100000 in
set_option maxHeartbeats 1000000 in
theorem Of_series (v hd bd : Value) (w : World) (hl : SliceOf 2 encPair w v lQ) (hE : Env w) :
    Calls Tryz.prog 38 #[.agg #[.string ⟨#[71, 69, 84]⟩, .string pathS, v, hd, bd]] w fun e w' => e = .returned (.tuple #[.agg errandS, .int .i64 200]) ∧ Up w w' := by
  go_enter Tryz.func38, Tryz.ntmps38
  go_wp2_with fail
  refine (parts_any pathS _ ?_ (by decide +kernel)).mono ?_
  · exact hE.up (((Up.refl _).alloc _).alloc _)
  rintro e w1 ⟨rfl, hw1⟩
  rw [countS]
  rw [partsS] at hw1
  simp only [List.map_cons, List.map_nil] at hw1
  have hu1 : Up w w1 := by subst hw1; exact (((Up.refl _).alloc _).alloc _).alloc _
  have hbox : At w1 w.heap.size #[.string ⟨#[71, 69, 84]⟩, .string pathS, v, hd, bd] 63 := by subst hw1; exact ((At.new w _ 63).alloc _).alloc _
  have hres : At w1 (w.heap.size + 1) errand0 77 := by subst hw1; have := (At.new (w.alloc (.cells #[.string ⟨#[71, 69, 84]⟩, .string pathS, v, hd, bd] 63)) errand0 77); rw [World.size_alloc] at this; exact this.alloc _
  have hparts : At w1 (w.heap.size + 1 + 1) #[.string ⟨#[115, 101, 114, 105, 101, 115]⟩, .string ⟨#[99, 112, 117]⟩] 9 := by
    subst hw1
    have := (At.new ((w.alloc (.cells #[.string ⟨#[71, 69, 84]⟩, .string pathS, v, hd, bd] 63)).alloc (.cells errand0 77)) #[.string ⟨#[115, 101, 114, 105, 101, 115]⟩, .string ⟨#[99, 112, 117]⟩] 9)
    rw [World.size_alloc, World.size_alloc] at this; exact this
  clear hw1
  have hE1 := hE.up hu1
  go_wp2_with fail
  refine (methods_series _ w1 (hparts.cell 0) (hparts.cell 1)).mono ?_
  rintro e w2 ⟨rfl, hw2⟩
  have hu2 : Up w1 w2 := by subst hw2; exact (Up.refl _).alloc _
  have hmap : w2.heap[w1.heap.size]? = some (.map seriesMap 3) := by subst hw2; exact (MapKept.heap_alloc w1 _).1
  clear hw2
  have hbox2 := hbox.up hu2
  have kb0 := hbox2.cell 0
  have hlk := run_lookup_at (P := Tryz.prog) (T := 124) (K := 9) (E := 128) Tryz.underlying124 Tryz.underlying9 ⟨#[71, 69, 84]⟩ (.func (.func 100) #[] #[]) 1 w1.heap.size seriesMap 3 w2 hmap (by kernel_rfl)
  have hnil := fun (w : World) (r : Option Nat) => run_eql_map_nil (P := Tryz.prog) w 124 9 128 r Tryz.underlying124
  have hfn := fun (w : World) => run_eql_func_nil (P := Tryz.prog) w 128 (.func 100) #[] #[] Tryz.underlying128
  have HN := At.new w2 errand0 77
  go_upto_region 8 with (fail)
  go_wp2_with (first | (refine wpList_build rfl 77 _ rfl (by kernel_rfl) ?_) | (refine wpList_store_row rfl 77 _ _ rfl w2.heap.size errand0 rfl rfl 77 errand0 (At.new w2 errand0 77) (by kernel_rfl) rfl (by kernel_rfl) ?_))
  go_frame
  have hX : At ((w2.alloc (.cells errand0 77)).setRow w2.heap.size errand0) w2.heap.size errand0 77 := HN.setRow errand0
  have hU : Up w2 ((w2.alloc (.cells errand0 77)).setRow w2.heap.size errand0) := By.to_up (Up.refl w2) ((By.of_up ((Up.refl w2).alloc _) w2.heap.size).setRow errand0) (Nat.le_refl _)
  generalize hW : (w2.alloc (.cells errand0 77)).setRow w2.heap.size errand0 = W at *
  clear hW HN hlk hnil hfn hmap kb0
  have hboxW := hbox2.up hU
  have hresW := (hres.up hu2).up hU
  have hpartsW := (hparts.up hu2).up hU
  have hEW := (hE1.up hu2).up hU
  have hlW : SliceOf 2 encPair W v lQ := hl.up encPair_len ((hu1.trans hu2).trans hU)
  have hsz : w2.heap.size < W.heap.size := hX.lt
  have hUW : Up w W := (hu1.trans hu2).trans hU
  have hne1 : w.heap.size + 1 ≠ w2.heap.size := by have := (hres.up hu2).lt; omega
  have kp := hpartsW.cell 1
  have kb := hboxW.cell 0
  have kb1 := hboxW.cell 1
  have kb2 := hboxW.cell 2
  have kb3 := hboxW.cell 3
  have kb4 := hboxW.cell 4
  simp only [List.getElem?_toArray, List.getElem?_cons_zero, List.getElem?_cons_succ] at kp kb kb1 kb2 kb3 kb4
  clear hbox hbox2 hres hparts hE1
  have hwr : IntKind.i64.wrap 1 = 1 := by decide
  go_still_tail 8, (by kernel_rfl)
  clear hwr
  go_wp2_with fail
  refine (askSeries_yes lQ _ _ _ v hd bd w2.heap.size (.int .i64 0) (.bool false) (.int .i64 0) (.string ⟨#[]⟩) (.string ⟨#[]⟩) (.string ⟨#[]⟩) (.slice none 0 0) (.int .i64 0) (.int .i64 0) (.int .i64 0) (.int .i64 0) (.int .i64 0) (.string ⟨#[]⟩) (.string ⟨#[]⟩) (.int .i64 0) (.int .i64 0) (.int .i64 0) (.int .i64 0) (.int .i64 0) (.string ⟨#[]⟩) (.int .i64 0) (.int .i64 0) (.int .i64 0) W.drew ?a1 ?a2 ?a3 ?a4 ?a5 ?a6 ?a7 ?a8 ?a9).mono ?_
  case a1 => exact hlW.up encPair_len ((Up.refl W).drew)
  case a2 => exact hEW.up ((Up.refl W).drew)
  case a3 => rw [qFrom]; decide
  case a4 => rw [qTo]; decide
  case a5 => exact hX.drew
  case a6 => have := hE.big; have := (hu1.trans hu2).size; omega
  case a7 => exact hl.notIn encPair_len (by decide) (by simp) (by have := (hu1.trans hu2).size; exact this)
  case a8 => rw [qTier]
  case a9 => rw [qTier]; simp only []; rw [tMid]
  rintro e w3 ⟨rfl, hby3, hA3⟩
  rw [okQ]
  rw [qTier, qFrom, qTo] at hA3
  simp only [tMid, n0, n9] at hA3
  have hres3 := (hresW.drew).grown hby3 (by simpa using hne1)
  have hU3 : Up w w3 := By.to_up ((hUW).drew) hby3 (by have := hUW.size; have := (hu1.trans hu2).size; exact this)
  have hA5 := hres3.setRow errandS
  clear hX hEW hlW hUW hboxW hresW hpartsW kp kb kb1 kb2 kb3 kb4 hl hE hu1 hu2 hby3 hne1
  go_wp2_with (first | (refine wpList_build rfl 77 _ rfl (by kernel_rfl) ?_) | (refine wpList_load_row rfl 77 _ rfl w2.heap.size rfl 77 errandS (0, 0) _ hA3 Tryz.underlying77 rfl (by kernel_rfl) ?_) | (refine wpList_store_row rfl 77 _ _ rfl (w.heap.size + 1) errandS rfl rfl 77 errand0 hres3 (by kernel_rfl) rfl (by kernel_rfl) ?_))
  try go_frame
  refine bodyPost_ret (v := .tuple #[.agg errandS, .int .i64 200]) ?_ rfl ⟨rfl, ?_⟩
  · exact res_cell_tmp (fn := Tryz.f38) (p := 2) (q := 3) (ty := 77) rfl _ _ (w.heap.size + 1) 77 errandS _ rfl hA5 Tryz.underlying77 rfl (by kernel_rfl)
  · exact By.to_up hU3 ((By.refl w3 (w.heap.size + 1)).setRow errandS) (Nat.le_succ _)
end Go.Proofs.Zd
