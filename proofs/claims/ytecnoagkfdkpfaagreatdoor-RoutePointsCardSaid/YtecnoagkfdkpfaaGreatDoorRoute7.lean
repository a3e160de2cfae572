/- Helper text Route7: what some functions of the program do, walked. -/
import Derived.Test.YtecnoagkfdkpfaaGreatDoorRoute6
namespace Go.Proofs.Zd
open Go.RowKit Go.Cat
abbrev pathA : ByteArray := ⟨#[47, 97, 117, 100, 105, 116]⟩
theorem countA : Lib.countB ⟨(Lib.trimPrefix pathA.data.toList [47]).toArray⟩ ⟨#[47]⟩ = 0 := by decide +kernel
theorem partsA : partsOf pathA.data.toList = [⟨#[97, 117, 100, 105, 116]⟩] := by decide +kernel
theorem zero128 (w : World) : (zeroValue 128).run Tryz.prog w = .ok .nilFunc w := by kernel_rfl
set_option maxRecDepth 100000 in
set_option maxHeartbeats 1000000 in
theorem Of_audit (v hd bd : Value) (w : World) (hE : Env w) :
    Calls Tryz.prog 38 #[.agg #[.string ⟨#[68, 69, 76, 69, 84, 69]⟩, .string pathA, v, hd, bd]] w fun e w' => e = .returned (.tuple #[.agg errand0, .int .i64 405]) ∧ Up w w' := by
  go_enter Tryz.func38, Tryz.ntmps38
  go_wp2_with fail
  refine (parts_any pathA _ ?_ (by decide +kernel)).mono ?_
  · exact hE.up (((Up.refl _).alloc _).alloc _)
  rintro e w1 ⟨rfl, hw1⟩
  rw [countA]
  rw [partsA] at hw1
  simp only [List.map_cons, List.map_nil] at hw1
  have hu1 : Up w w1 := by subst hw1; exact (((Up.refl _).alloc _).alloc _).alloc _
  have hbox : At w1 w.heap.size #[.string ⟨#[68, 69, 76, 69, 84, 69]⟩, .string pathA, v, hd, bd] 63 := by subst hw1; exact ((At.new w _ 63).alloc _).alloc _
  have hres : At w1 (w.heap.size + 1) errand0 77 := by subst hw1; have := (At.new (w.alloc (.cells #[.string ⟨#[68, 69, 76, 69, 84, 69]⟩, .string pathA, v, hd, bd] 63)) errand0 77); rw [World.size_alloc] at this; exact this.alloc _
  have hparts : At w1 (w.heap.size + 1 + 1) #[.string ⟨#[97, 117, 100, 105, 116]⟩] 9 := by
    subst hw1
    have := (At.new ((w.alloc (.cells #[.string ⟨#[68, 69, 76, 69, 84, 69]⟩, .string pathA, v, hd, bd] 63)).alloc (.cells errand0 77)) #[.string ⟨#[97, 117, 100, 105, 116]⟩] 9)
    rw [World.size_alloc, World.size_alloc] at this; exact this
  clear hw1
  go_wp2_with fail
  refine (methods_audit _ w1 (hparts.cell 0)).mono ?_
  rintro e w2 ⟨x, rfl, hw2⟩
  have hu2 : Up w1 w2 := by subst hw2; exact ((Up.refl _).alloc _).alloc _
  have hmap : w2.heap[w1.heap.size]? = some (.map #[⟨.string ⟨#[71, 69, 84]⟩, x, 0⟩] 1) := by subst hw2; exact ((MapKept.heap_alloc _ _).2 _ (by simp)).trans (MapKept.heap_alloc w1 _).1
  clear hw2
  have hbox2 := hbox.up hu2
  have kb0 := hbox2.cell 0
  have hlk := run_lookup_none (P := Tryz.prog) (T := 124) (K := 9) (E := 128) Tryz.underlying124 Tryz.underlying9 ⟨#[68, 69, 76, 69, 84, 69]⟩ .nilFunc w1.heap.size #[⟨.string ⟨#[71, 69, 84]⟩, x, 0⟩] 1 w2 (zero128 w2) hmap (by kernel_rfl)
  have hnil := fun (w : World) (r : Option Nat) => run_eql_map_nil (P := Tryz.prog) w 124 9 128 r Tryz.underlying124
  have hfn := fun (w : World) => run_eql_nilFunc (P := Tryz.prog) w 128 Tryz.underlying128
  have hres2 := hres.up hu2
  have hA5 := hres2.setRow errand0
  have hU := hu1.trans hu2
  clear hbox hres hparts hE hu1 hu2 hbox2 hmap
  have hbl : (Tryz.prog.built 77 []).getD #[] = errand0 := by kernel_rfl
  go_upto_region 7 with (fail)
  refine wp_region_list ?_
  refine wpList_build rfl 77 _ rfl (by kernel_rfl) ?_
  refine wpList_store_row rfl 77 (.tmp 2) (.tmp 26) rfl (w.heap.size + 1) errand0 rfl (by kernel_rfl) 77 errand0 hres2 (by kernel_rfl) rfl (by kernel_rfl) ?_
  go_frame
  go_wp2
  refine bodyPost_ret (v := .tuple #[.agg errand0, .int .i64 405]) ?_ rfl ⟨rfl, ?_⟩
  · exact res_cell_tmp (fn := Tryz.f38) (p := 2) (q := 3) (ty := 77) rfl _ _ (w.heap.size + 1) 77 errand0 _ rfl hA5 Tryz.underlying77 rfl (by kernel_rfl)
  · exact By.to_up hU ((By.refl w2 (w.heap.size + 1)).setRow errand0) (Nat.le_succ _)
end Go.Proofs.Zd
