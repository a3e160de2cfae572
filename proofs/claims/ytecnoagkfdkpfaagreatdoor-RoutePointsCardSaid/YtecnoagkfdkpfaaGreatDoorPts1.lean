/- Helper text Pts1: what some functions of the program do, walked. -/
import Derived.Test.YtecnoagkfdkpfaaGreatDoorPts0
import Derived.StillTailTactics
import Derived.Maps.AppendAt
import Derived.OwnWalk
import Derived.Deep.AppendLies
namespace Go.Proofs.Zd
open Go.RowKit Go.Cat
/-- a row of two numbers, in memory -/
def GoodRow (w : World) (b : Nat) (j : Nat) (p : Int × Int) : Prop :=
  ∃ ib ic, (∀ i, i < 6 → w.cell? ⟨b, j * 6 + i, none⟩ = (rowV (.slice (some ⟨ib, 0, none⟩) 2 ic))[i]?) ∧ ∀ i, i < 12 → w.cell? ⟨ib, i, none⟩ = (numV p.1 ++ numV p.2)[i]?
theorem GoodRow.up {w w' : World} {b j : Nat} {p : Int × Int} (h : GoodRow w b j p) (hu : Up w w') : GoodRow w' b j p := by
  obtain ⟨ib, ic, h1, h2⟩ := h
  refine ⟨ib, ic, fun i hi => ?_, fun i hi => ?_⟩
  · have e := h1 i hi
    rw [Array.getElem?_eq_getElem (by exact hi)] at e ⊢
    exact hu.cell e
  · have e := h2 i hi
    rw [Array.getElem?_eq_getElem (by exact hi)] at e ⊢
    exact hu.cell e
def encPt (p : Int × Int) : List Value := [.int .i64 p.1, .int .i64 p.2]
def flatPt (l : List (Int × Int)) : List Value := (l.map encPt).flatten
theorem res_two {P : Program} {fn : Func} {p q : Tmp} (h : fn.results = #[.tmp p, .tmp q]) (tmps : Array Value) (w : World) :
    (results fn tmps).run P w = .ok (.tuple #[tmps.getD p undef, tmps.getD q undef]) w := by simp [results, h]
theorem info33 : (Tryz.prog.info? 33).map (fun i => (i.zero, i.size, i.bytes)) = some (some (.agg #[.int .i64 0, .int .i64 0]), 2, 16) := by kernel_rfl
theorem flat_snoc (l : List (Int × Int)) (k : Nat) (p : Int × Int) (h : l[k]? = some p) : flatPt (l.take (k + 1)) = flatPt (l.take k) ++ [.int .i64 p.1, .int .i64 p.2] := by
  rw [List.take_add_one, h]; simp [flatPt, encPt]
/-- a row that is not of the form: three ways -/
def BadRow (w : World) (b : Nat) (j : Nat) : Prop :=
  (∃ cs : Array Value, cs = numV 5 ∧ ∀ i, i < 6 → w.cell? ⟨b, j * 6 + i, none⟩ = cs[i]?) ∨
  (∃ ib ic, ∀ i, i < 6 → w.cell? ⟨b, j * 6 + i, none⟩ = (rowV (.slice (some ⟨ib, 0, none⟩) 1 ic))[i]?) ∨
  (∃ ib ic, (∀ i, i < 6 → w.cell? ⟨b, j * 6 + i, none⟩ = (rowV (.slice (some ⟨ib, 0, none⟩) 2 ic))[i]?) ∧ w.cell? ⟨ib, 0, none⟩ = some (.int .i64 2) ∧ w.cell? ⟨ib, 6, none⟩ = some (.int .i64 3))
set_option maxRecDepth 100000 in
set_option maxHeartbeats 1000000 in
/-- the first m rows are good; there are no more, or the next one is bad -/
theorem points_any (l : List (Int × Int)) (b m n cap : Nat) (w : World) (hn : l.length = m) (hmn : m ≤ n) (h60 : n ≤ 60) (hend : m = n ∨ BadRow w b m) (hg : ∀ j p, l[j]? = some p → GoodRow w b j p) :
    Calls Tryz.prog 14 #[.agg (rowV (.slice (some ⟨b, 0, none⟩) n cap))] w fun e w' => Up w w' ∧ ((m = n ∧ ∃ v, e = .returned (.tuple #[v, .bool true]) ∧ w'.ownsRow w.heap.size 33 2 v n (flatPt l)) ∨ (m < n ∧ e = .returned (.tuple #[.slice none 0 0, .bool false]))) := by
  have HN := Lib.hid hn; clear hn
  have HG := Lib.hid hg; clear hg
  have HE := Lib.hid hend; clear hend
  obtain ⟨i0, hi, hz0, hz1, hz2⟩ := info_parts info33
  go_enter Tryz.func14, Tryz.ntmps14
  go_wp2
  have hu0 : Up w (w.alloc (.cells (rowV (.slice (some ⟨b, 0, none⟩) n cap)) 30)) := (Up.refl _).alloc _
  generalize hW : w.alloc (.cells _ 30) = w0 at *
  go_loopw [4, 13] (fun s4 s13 wr => ∃ k : Nat, k ≤ m ∧ s13 = .int .i64 k ∧ Up w wr ∧ wr.ownsRow w.heap.size 33 2 s4 k (flatPt (l.take k))) (fun _ i _ => n - (intOf i).toNat)
  case atStart => exact ⟨0, Nat.zero_le _, rfl, hu0, ⟨rfl, Or.inl ⟨rfl, rfl⟩⟩⟩
  case round =>
    obtain ⟨k, hk, rfl, hb, hown⟩ := hrel
    by_cases hlt : k < m
    · have hltn : k < n := by omega
      obtain ⟨p, hp, hd⟩ := drop_at l k (by rw [HN.out]; exact hlt)
      clear hd
      obtain ⟨ib, ic, g1, g2⟩ := HG.out k p hp
      have hibw : ib < w.heap.size := by
        have e := g2 2 (by omega)
        exact World.block_lt_of_cell? _ _ e
      have g1 : ∀ i, i < 6 → wr.cell? ⟨b, k * 6 + i, none⟩ = (rowV (.slice (some ⟨ib, 0, none⟩) 2 ic))[i]? := fun i hi' => by
        have e := g1 i hi'
        rw [Array.getElem?_eq_getElem (by exact hi')] at e ⊢
        exact hb.cell e
      have g2 : ∀ i, i < 12 → wr.cell? ⟨ib, i, none⟩ = (numV p.1 ++ numV p.2)[i]? := fun i hi' => by
        have e := g2 i hi'
        rw [Array.getElem?_eq_getElem (by exact hi')] at e ⊢
        exact hb.cell e
      have HF := Lib.hid (flat_snoc l k p hp)
      clear hp
      have c0 := g1 0 (by omega)
      have c1 := g1 1 (by omega)
      have c2 := g1 2 (by omega)
      have c3 := g1 3 (by omega)
      have c4 := g1 4 (by omega)
      have c5 := g1 5 (by omega)
      have d0 := g2 0 (by omega)
      have d2 := g2 2 (by omega)
      have d6 := g2 6 (by omega)
      have d8 := g2 8 (by omega)
      clear g1 g2
      simp only [numV, rowV, Nat.add_zero, List.append_toArray, List.cons_append, List.nil_append, List.getElem?_toArray, List.getElem?_cons_zero, List.getElem?_cons_succ] at c0 c1 c2 c3 c4 c5 d0 d2 d6 d8
      have d0' := fun o => ((Up.refl wr).alloc o).cell d0
      have d2' := fun o => ((Up.refl wr).alloc o).cell d2
      have d6' := fun o => ((Up.refl wr).alloc o).cell d6
      have d8' := fun o => ((Up.refl wr).alloc o).cell d8
      go_upto_region 9 with (fail)
      have hol := hown.lt
      have hk1 : k + 1 ≤ maxLen := by simp only [maxLen]; omega
      have hk2 : (k + 1) * 16 ≤ 140737488355328 := by omega
      generalize hW1 : wr.alloc (.cells #[.int .i64 4, .bool false, .int .i64 0, .string ⟨#[]⟩, .slice (some ⟨ib, 0, none⟩) 2 ic, .slice none 0 0] 30) = w1 at *
      have e4 : w1.cell? ⟨wr.heap.size, 4, none⟩ = some (.slice (some ⟨ib, 0, none⟩) 2 ic) := by rw [← hW1]; exact (At.new wr _ 30).cell 4
      have e2 : w1.cell? ⟨ib, 2, none⟩ = some (.int .i64 p.1) := by rw [← hW1]; exact d2' _
      have e8 : w1.cell? ⟨ib, 8, none⟩ = some (.int .i64 p.2) := by rw [← hW1]; exact d8' _
      have hs1 : w1.heap.size = wr.heap.size + 1 := by rw [← hW1]; exact Array.size_push _
      have hb1 : Up w w1 := by rw [← hW1]; exact hb.alloc _
      have hown1 : w1.ownsRow w.heap.size 33 2 u4 k (flatPt (l.take k)) := by rw [← hW1]; exact hown.alloc _
      have hb1s := hb1.size
      have hone : ∀ u ∈ [Value.int .i64 p.1, .int .i64 p.2], u.oneCell' = true := fun u hu => by
        rcases List.mem_cons.1 hu with rfl | hu
        · rfl
        · rcases List.mem_cons.1 hu with rfl | hu
          · rfl
          · cases hu
      have h02 : 0 < 2 := by omega
      have hA : ∀ j u, [Value.int .i64 p.1, .int .i64 p.2][j]? = some u → (w1.drew.alloc (.cells #[.int .i64 p.1, .int .i64 p.2] 33)).cell? ((⟨wr.heap.size + 1, 0, none⟩ : Addr).add j) = some u := by rw [← hs1]; exact World.news_of_block (At.new w1.drew #[.int .i64 p.1, .int .i64 p.2] 33)
      have hO : (w1.drew.alloc (.cells #[.int .i64 p.1, .int .i64 p.2] 33)).ownsRow w.heap.size 33 2 u4 k (flatPt (l.take k)) := hown1.drew.alloc _
      have h01 : 0 < 1 := by omega
      have hsz : ∀ o, w.heap.size ≤ (w1.drew.alloc o).heap.size := fun o => Nat.le_trans hb1s (Nat.le_trans (Nat.le_succ _) (Nat.le_of_eq (Array.size_push _).symm))
      have hne : ∀ u, u4.ownBlock = some u → u ≠ ib ∧ u ≠ wr.heap.size := fun u hu => by have := hol u hu; omega
      clear d0' d2' d6' d8' c0 c1 c2 c3 c4 c5 d0 d2 d6 d8 hol hW1
      go_region_held3 (fun w' => w'.cell? ⟨wr.heap.size, 4, none⟩ = some (.slice (some ⟨ib, 0, none⟩) 2 ic) ∧ w'.cell? ⟨ib, 2, none⟩ = some (.int .i64 p.1) ∧ w'.cell? ⟨ib, 8, none⟩ = some (.int .i64 p.2))
        (first
          | (exact ⟨e4, e2, e8⟩)
          | (refine ⟨(hgrow.cell_far _ ?_ ?_).trans (((Up.refl w1).drew.alloc _).cell e4), (hgrow.cell_far _ ?_ ?_).trans (((Up.refl w1).drew.alloc _).cell e2), (hgrow.cell_far _ ?_ ?_).trans (((Up.refl w1).drew.alloc _).cell e8)⟩ <;> first | (intro hu; exact (hne _ hu.symm).1 rfl) | (intro hu; exact (hne _ hu.symm).2 rfl) | (show _ < (w1.heap.push _).size; rw [Array.size_push]; simp only; omega))
          | go_keep)
        ((refine step_append_lies (w1.drew.alloc _) rfl _ _ _ rfl w.heap.size 33 i0 _ 2 16 rfl hi hz0 hz1 hz2 rfl h02 u4 k (flatPt (l.take k)) rfl hO _ 1 1 [.int .i64 p.1, .int .i64 p.2] rfl rfl hA hone h01 hk1 hk2 (hsz _) _ rfl ?_; intro g cap w2 hown2 hgrow hat hlt2))
      go_wp2_with (fail)
      have hu2 : Up w w2 := Below.grown (hb1.drew.alloc _) hgrow (Nat.le_trans hb1s (Nat.le_trans (Nat.le_succ _) (Nat.le_of_eq (Array.size_push _).symm))) (fun u hu => (hown.lt u hu).1)
      refine ⟨⟨k + 1, hlt, rfl, hu2, ?_⟩, by simp [intOf]; omega⟩
      rw [HF.out]; exact hown2
    · have e : k = m := by omega
      subst e
      rcases HE.out with e | hbad
      · subst e
        go_wp2_with (fail)
        rw [← HN.out, List.take_length] at hown
        refine bodyPost_ret (v := .tuple #[u4, .bool true]) (res_two (fn := Tryz.f14) (p := 2) (q := 3) rfl _ _) rfl ⟨hb, u4, rfl, ?_⟩
        rw [← HN.out]; exact hown
      · by_cases hkn : k = n
        · subst hkn
          go_wp2_with (fail)
          rw [← HN.out, List.take_length] at hown
          refine bodyPost_ret (v := .tuple #[u4, .bool true]) (res_two (fn := Tryz.f14) (p := 2) (q := 3) rfl _ _) rfl ⟨hb, u4, rfl, ?_⟩
          rw [← HN.out]; exact hown
        · have hltn : k < n := by omega
          clear hkn
          rcases hbad with ⟨cs, rfl, g1⟩ | ⟨ib, ic, g1⟩ | ⟨ib, ic, g1, d0, d6⟩
          · have c0 := hb.cell (g1 0 (by omega))
            have c1 := hb.cell (g1 1 (by omega))
            have c2 := hb.cell (g1 2 (by omega))
            have c3 := hb.cell (g1 3 (by omega))
            have c4 := hb.cell (g1 4 (by omega))
            have c5 := hb.cell (g1 5 (by omega))
            clear g1
            simp only [Nat.add_zero] at c0
            go_wp2_with (fail)
            exact bodyPost_ret (v := .tuple #[.slice none 0 0, .bool false]) (res_two (fn := Tryz.f14) (p := 2) (q := 3) rfl _ _) rfl ⟨hb.alloc _, Or.inr ⟨hltn, rfl⟩⟩
          · have c0 := hb.cell (g1 0 (by omega))
            have c1 := hb.cell (g1 1 (by omega))
            have c2 := hb.cell (g1 2 (by omega))
            have c3 := hb.cell (g1 3 (by omega))
            have c4 := hb.cell (g1 4 (by omega))
            have c5 := hb.cell (g1 5 (by omega))
            clear g1
            simp only [Nat.add_zero] at c0
            go_wp2_with (fail)
            exact bodyPost_ret (v := .tuple #[.slice none 0 0, .bool false]) (res_two (fn := Tryz.f14) (p := 2) (q := 3) rfl _ _) rfl ⟨hb.alloc _, Or.inr ⟨hltn, rfl⟩⟩
          · have c0 := hb.cell (g1 0 (by omega))
            have c1 := hb.cell (g1 1 (by omega))
            have c2 := hb.cell (g1 2 (by omega))
            have c3 := hb.cell (g1 3 (by omega))
            have c4 := hb.cell (g1 4 (by omega))
            have c5 := hb.cell (g1 5 (by omega))
            have d0' := fun o => (hb.alloc o).cell d0
            have d6' := fun o => (hb.alloc o).cell d6
            clear g1
            simp only [Nat.add_zero] at c0
            go_wp2_with (fail)
            exact bodyPost_ret (v := .tuple #[.slice none 0 0, .bool false]) (res_two (fn := Tryz.f14) (p := 2) (q := 3) rfl _ _) rfl ⟨hb.alloc _, Or.inr ⟨hltn, rfl⟩⟩
end Go.Proofs.Zd
