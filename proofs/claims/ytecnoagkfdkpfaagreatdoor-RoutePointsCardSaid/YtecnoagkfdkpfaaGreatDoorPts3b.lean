/- Helper text Pts3b: what some functions of the program do, walked. -/
import Derived.Test.YtecnoagkfdkpfaaGreatDoorPts3
namespace Go.Proofs.Zd
open Go.RowKit Go.Cat
theorem info30 : (Tryz.prog.info? 30).map (fun i => (i.zero, i.size, i.bytes)) = some (some (.agg #[.int .i64 0, .bool false, .int .i64 0, .string ⟨#[]⟩, .slice none 0 0, .slice none 0 0]), 6, 88) := by kernel_rfl
def encRow (i : Nat) : List Value := [.int .i64 4, .bool false, .int .i64 0, .string ⟨#[]⟩, .slice (some ⟨i, 0, none⟩) 2 2, .slice none 0 0]
theorem encRow_len (i : Nat) : (encRow i).length = 6 := rfl
def flatRow (is : List Nat) : List Value := (is.map encRow).flatten
/-- the rows in memory: v holds them, each of the list is has two numbers -/
structure PRows (w : World) (B : Nat) (v : Value) (l : List (Int × Int)) (is : List Nat) : Prop where
  own : w.ownsRow (B + 1) 30 6 v is.length (flatRow is)
  nd : is.Nodup
  each : ∀ (j i : Nat) (p : Int × Int), is[j]? = some i → l[j]? = some p → At w i (numV p.1 ++ numV p.2) 30 ∧ v.ownBlock ≠ some i ∧ B < i
theorem news2 (w : World) (o : Obj) (cs : Array Value) (t : TypeId) : ∀ j u, cs.toList[j]? = some u → ((w.alloc o).alloc (.cells cs t)).cell? ((⟨w.heap.size + 1, 0, none⟩ : Addr).add j) = some u := by
  have h := World.news_of_block (At.new (w.alloc o) cs t)
  rw [show (w.alloc o).heap.size = w.heap.size + 1 from Array.size_push _] at h
  exact h
theorem row_one (i : Nat) : ∀ u ∈ encRow i, u.oneCell' = true := fun u hu => by
  simp only [encRow, List.mem_cons, List.not_mem_nil, or_false] at hu
  rcases hu with rfl | rfl | rfl | rfl | rfl | rfl <;> rfl
theorem PRows.step {wr wz wn wp : World} {B k g cap : Nat} {v : Value} {l : List (Int × Int)} {is : List Nat} {p : Int × Int} {o : Obj} (hR : PRows wr B v l is) (hA : At wr B (rowV v) 30) (hx : Up wr wz) (hU : Up wz wn)
    (hlen : is.length = k) (hp : l[k]? = some p)
    (hown2 : wp.ownsRow (B + 1) 30 6 (.slice (some ⟨g, 0, none⟩) (k + 1) cap) (k + 1) (flatRow is ++ encRow wn.heap.size))
    (hgrow : ((wn.alloc (.cells (numV p.1 ++ numV p.2) 30)).alloc o).grownBy wp v.ownBlock) (hat : v.ownBlock = some g ∨ g = ((wn.alloc (.cells (numV p.1 ++ numV p.2) 30)).alloc o).heap.size) :
    At (wp.setCell ⟨B, 4, none⟩ (.slice (some ⟨g, 0, none⟩) (k + 1) cap)) B (rowV (.slice (some ⟨g, 0, none⟩) (k + 1) cap)) 30 ∧
    PRows (wp.setCell ⟨B, 4, none⟩ (.slice (some ⟨g, 0, none⟩) (k + 1) cap)) B (.slice (some ⟨g, 0, none⟩) (k + 1) cap) l (is ++ [wn.heap.size]) := by
  have hUn : Up wr wn := hx.trans hU
  have hs := hUn.size
  have hv := hR.own.lt
  have hBlt := hA.lt
  have hvB : v.ownBlock ≠ some B := fun e => by have := hv B e; omega
  have hUa : Up wr ((wn.alloc (.cells (numV p.1 ++ numV p.2) 30)).alloc o) := (hUn.alloc _).alloc _
  have hH : ((wn.alloc (.cells (numV p.1 ++ numV p.2) 30)).alloc o).heap.size = wn.heap.size + 2 := by
    show ((wn.heap.push _).push _).size = _
    rw [Array.size_push, Array.size_push]
  have hlk : k < l.length := (List.getElem?_eq_some_iff.1 hp).1
  have hlow : ∀ j i, is[j]? = some i → i < wr.heap.size := fun j i h => by
    have hj : j < is.length := (List.getElem?_eq_some_iff.1 h).1
    exact (hR.each j i _ h (List.getElem?_eq_getElem (by omega : j < l.length))).1.lt
  refine ⟨?_, ⟨?_, ?_, ?_⟩⟩
  · exact (((hA.up hUa).grown hgrow (fun e => hvB e.symm)).set 4 _)
  · rw [List.length_append, hlen]
    have := ownsRow_setCell_below hown2 (a := ⟨B, 4, none⟩) (Nat.lt_succ_self B) (.slice (some ⟨g, 0, none⟩) (k + 1) cap)
    have e : flatRow (is ++ [wn.heap.size]) = flatRow is ++ encRow wn.heap.size := by simp [flatRow]
    rw [e]; exact this
  · rw [List.nodup_append]
    refine ⟨hR.nd, by simp, fun a ha b hb => ?_⟩
    simp at hb
    obtain ⟨j, hj⟩ := List.mem_iff_getElem?.1 ha
    have := hlow j a hj
    omega
  · intro j i q hj hq
    by_cases hjk : j < k
    · rw [List.getElem?_append_left (by omega)] at hj
      obtain ⟨h1, h2, h3⟩ := hR.each j i q hj hq
      have hlt := hlow j i hj
      refine ⟨((h1.up hUa).grown hgrow (fun e => h2 e.symm)).grown ((By.refl wp B).set 4 _) (by simpa using Nat.ne_of_gt h3), ?_, h3⟩
      intro e
      simp [Value.ownBlock] at e
      subst e
      rcases hat with e | e
      · exact h2 e
      · omega
    · have hjk' : j = k := by
        have : j < (is ++ [wn.heap.size]).length := (List.getElem?_eq_some_iff.1 hj).1
        simp at this; omega
      subst hjk'
      rw [hp] at hq; cases hq
      rw [List.getElem?_append_right (by omega), hlen, Nat.sub_self] at hj
      simp at hj; subst hj
      have hne : v.ownBlock ≠ some wn.heap.size := fun e => by have := hv _ e; omega
      have hnB : B < wn.heap.size := by omega
      refine ⟨(((At.new wn (numV p.1 ++ numV p.2) 30).alloc o).grown hgrow (fun e => hne e.symm)).grown ((By.refl wp B).set 4 _) (by simpa using Nat.ne_of_gt hnB), ?_, hnB⟩
      intro e
      simp [Value.ownBlock] at e
      rcases hat with e' | e'
      · have := hv _ e'; omega
      · omega
theorem PRows.up {w w' : World} {B : Nat} {v : Value} {l : List (Int × Int)} {is : List Nat} (h : PRows w B v l is) (hu : Up w w') : PRows w' B v l is := by
  refine ⟨h.own.kept (By.of_up hu B) (Or.inr fun e => by have := h.own.lt B e; omega), h.nd, fun j i p hj hp => ?_⟩
  obtain ⟨h1, h2, h3⟩ := h.each j i p hj hp
  exact ⟨h1.up hu, h2, h3⟩
/-- a row of v reads well -/
theorem PRows.good {w : World} {B g n cap : Nat} {l : List (Int × Int)} {is : List Nat} (h : PRows w B (.slice (some ⟨g, 0, none⟩) n cap) l is) (hl : is.length = n) (j : Nat) (p : Int × Int) (hp : l[j]? = some p) (hj : j < n) : GoodRow w g j p := by
  obtain ⟨i, hi⟩ : ∃ i, is[j]? = some i := ⟨is[j]'(by omega), List.getElem?_eq_getElem (by omega)⟩
  obtain ⟨h1, h2, h3⟩ := h.each j i p hi hp
  refine ⟨i, 2, fun m hm => ?_, fun m hm => h1.cell m⟩
  have hown := h.own
  rw [hl] at hown
  rw [hown.cellAt (j * 6 + m) (by omega)]
  rw [show flatRow is = (is.map encRow).flatten from rfl, flat_get encRow_len is j i m hi hm]
  match m, hm with
  | 0, _ | 1, _ | 2, _ | 3, _ | 4, _ | 5, _ => rfl
/-- all rows are good -/
theorem points_all (l : List (Int × Int)) (b n cap : Nat) (w : World) (hn : l.length = n) (h60 : n ≤ 60) (hg : ∀ j p, l[j]? = some p → GoodRow w b j p) :
    Calls Tryz.prog 14 #[.agg (rowV (.slice (some ⟨b, 0, none⟩) n cap))] w fun e w' => ∃ x, e = .returned (.tuple #[x, .bool true]) ∧ w'.ownsRow w.heap.size 33 2 x n (flatPt l) ∧ Up w w' :=
  (points_any l b n n cap w hn (Nat.le_refl _) h60 (Or.inl rfl) hg).mono fun e w' h => by
    obtain ⟨hu, h | h⟩ := h
    · obtain ⟨-, x, h1, h2⟩ := h
      exact ⟨x, h1, h2, hu⟩
    · exact absurd h.1 (Nat.lt_irrefl _)
/-- the row at m is bad -/
theorem points_not (l : List (Int × Int)) (b m n cap : Nat) (w : World) (hn : l.length = m) (hmn : m < n) (h60 : n ≤ 60) (hbad : BadRow w b m) (hg : ∀ j p, l[j]? = some p → GoodRow w b j p) :
    Calls Tryz.prog 14 #[.agg (rowV (.slice (some ⟨b, 0, none⟩) n cap))] w fun e w' => e = .returned (.tuple #[.slice none 0 0, .bool false]) ∧ Up w w' :=
  (points_any l b m n cap w hn (Nat.le_of_lt hmn) h60 (Or.inr hbad) hg).mono fun e w' h => by
    obtain ⟨hu, h | h⟩ := h
    · exact absurd h.1 (Nat.ne_of_lt hmn)
    · exact ⟨h.2, hu⟩
theorem flatPt_len (l : List (Int × Int)) : (flatPt l).length = l.length * 2 := by
  induction l with
  | nil => rfl
  | cons p l ih => simp only [flatPt, List.map_cons, List.flatten_cons, List.length_append, List.length_cons] at *; rw [ih]; simp [encPt]; omega
theorem flatPt_at (l : List (Int × Int)) (k : Nat) (p : Int × Int) (h : l[k]? = some p) : (flatPt l)[k * 2]? = some (.int .i64 p.1) ∧ (flatPt l)[k * 2 + 1]? = some (.int .i64 p.2) := by
  have e : ∀ x, (encPt x).length = 2 := fun _ => rfl
  exact ⟨flat_get e l k p 0 h (by omega), flat_get e l k p 1 h (by omega)⟩
/-- the rows ahead of m read well where nothing of theirs was written -/
theorem PRows.good_after {w w' : World} {B g n cap m : Nat} {l : List (Int × Int)} {is : List Nat} (h : PRows w B (.slice (some ⟨g, 0, none⟩) n cap) l is) (hl : is.length = n) (hm : m < n)
    (h1 : ∀ j, j < m → ∀ q, q < 6 → w'.cell? ⟨g, j * 6 + q, none⟩ = w.cell? ⟨g, j * 6 + q, none⟩) (h2 : ∀ j i, j < m → is[j]? = some i → ∀ q, w'.cell? ⟨i, q, none⟩ = w.cell? ⟨i, q, none⟩) :
    ∀ j p, (l.take m)[j]? = some p → GoodRow w' g j p := fun j p hp => by
  have hj : j < m := by have := (List.getElem?_eq_some_iff.1 hp).1; rw [List.length_take] at this; omega
  rw [List.getElem?_take, if_pos hj] at hp
  obtain ⟨i, hi⟩ : ∃ i, is[j]? = some i := ⟨is[j]'(by omega), List.getElem?_eq_getElem (by omega)⟩
  obtain ⟨k1, k2, k3⟩ := h.each j i p hi hp
  refine ⟨i, 2, fun q hq => ?_, fun q hq => (h2 j i hj hi q).trans (k1.cell q)⟩
  rw [h1 j hj q hq]
  have hown := h.own
  rw [hl] at hown
  rw [hown.cellAt (j * 6 + q) (by omega)]
  rw [show flatRow is = (is.map encRow).flatten from rfl, flat_get encRow_len is j i q hi hq]
  match q, hq with
  | 0, _ | 1, _ | 2, _ | 3, _ | 4, _ | 5, _ => rfl
theorem PRows.ne {w : World} {B g n cap m j i i' : Nat} {l : List (Int × Int)} {is : List Nat} (h : PRows w B (.slice (some ⟨g, 0, none⟩) n cap) l is) (hjm : j < m) (hi : is[m]? = some i) (hj : is[j]? = some i') : i' ≠ i := by
  intro e
  subst e
  have hjl := (List.getElem?_eq_some_iff.1 hj).1
  exact absurd ((List.getElem?_inj hjl h.nd).1 (hj.trans hi.symm)) (by omega)
end Go.Proofs.Zd
