/- Words of mine: one block's cells, and what writing it leaves. No program. -/
import Derived.Test.YtecnoagkfdkpfaaGreatDoorW0
import Derived.Maps.AppendAt
import Derived.Laws.Rows
namespace Go.Cat
open Go.RowKit
/-- block b holds just these cells, none frozen -/
def At (w : World) (b : Nat) (cs : Array Value) (t : TypeId) : Prop := w.heap[b]? = some (.cells cs t (0, 0))
theorem At.lt {w : World} {b : Nat} {cs : Array Value} {t : TypeId} (h : At w b cs t) : b < w.heap.size := (Array.getElem?_eq_some_iff.1 h).1
theorem At.cell {w : World} {b : Nat} {cs : Array Value} {t : TypeId} (h : At w b cs t) (i : Nat) : w.cell? ⟨b, i, none⟩ = cs[i]? := by
  unfold World.cell?
  rw [show w.heap[(⟨b, i, none⟩ : Addr).block]? = some (.cells cs t (0, 0)) from h]
  simp
theorem At.froz {w : World} {b : Nat} {cs : Array Value} {t : TypeId} (h : At w b cs t) (i : Nat) : w.frozen? ⟨b, i, none⟩ = false := by
  unfold World.frozen?
  rw [show w.heap[(⟨b, i, none⟩ : Addr).block]? = some (.cells cs t (0, 0)) from h]
  simp
theorem At.up {w w' : World} {b : Nat} {cs : Array Value} {t : TypeId} (h : At w b cs t) (hu : Up w w') : At w' b cs t := (hu.block b h.lt).trans h
theorem At.grown {w w' : World} {b : Nat} {cs : Array Value} {t : TypeId} {row : Option Nat} (h : At w b cs t) (hg : w.grownBy w' row) (hne : some b ≠ row) : At w' b cs t := (hg.block b h.lt hne).trans h
theorem At.set {w : World} {b : Nat} {cs : Array Value} {t : TypeId} (h : At w b cs t) (i : Nat) (v : Value) : At (w.setCell ⟨b, i, none⟩ v) b (cs.setIfInBounds i v) t := by
  unfold At World.setCell
  simp only [Array.getElem?_modify, if_true]
  rw [show w.heap[b]? = some (.cells cs t (0, 0)) from h]
  simp
theorem At.new (w : World) (cs : Array Value) (t : TypeId) : At (w.alloc (.cells cs t)) w.heap.size cs t := by
  show (w.heap.push _)[w.heap.size]? = _
  simp
theorem At.alloc {w : World} {b : Nat} {cs : Array Value} {t : TypeId} (h : At w b cs t) (o : Obj) : At (w.alloc o) b cs t := h.up ((Up.refl w).alloc o)
theorem At.drew {w : World} {b : Nat} {cs : Array Value} {t : TypeId} (h : At w b cs t) : At w.drew b cs t := h
abbrev By (w w' : World) (b : Nat) : Prop := w.grownBy w' (some b)
theorem By.of_up {w w' : World} (h : Up w w') (b : Nat) : By w w' b := ⟨h.os, h.tape, h.output, h.size, fun k hk _ => h.block k hk⟩
theorem By.refl (w : World) (b : Nat) : By w w b := By.of_up (Up.refl w) b
theorem By.set {w w' : World} {b : Nat} (h : By w w' b) (i : Nat) (v : Value) : By w (w'.setCell ⟨b, i, none⟩ v) b :=
  h.trans ⟨rfl, rfl, rfl, by simp [World.setCell], fun k hk hne => Below.heap_setCell _ _ _ _ (fun e => hne (by rw [e]))⟩
theorem By.up {w w' w2 : World} {b : Nat} (h : By w w' b) (k : Up w' w2) : By w w2 b := h.trans (By.of_up k b)
theorem By.alloc {w w' : World} {b : Nat} (h : By w w' b) (o : Obj) : By w (w'.alloc o) b := h.up ((Up.refl _).alloc o)
theorem By.drew {w w' : World} {b : Nat} (h : By w w' b) : By w w'.drew b := h.trans (By.of_up (Up.refl w').drew b)
/-- what is written is new: the world has only grown -/
theorem By.to_up {a w w' : World} {b : Nat} (ha : Up a w) (h : By w w' b) (hb : a.heap.size ≤ b) : Up a w' :=
  Below.grown ha h ha.size (fun k e => by cases e; exact hb)
theorem At.setRow {w : World} {b : Nat} {cs : Array Value} {t : TypeId} (h : At w b cs t) (ds : Array Value) : At (w.setRow b ds) b ds t := by
  unfold At World.setRow
  simp only [Array.getElem?_modify, if_true]
  rw [show w.heap[b]? = some (.cells cs t (0, 0)) from h]
  simp
theorem By.setRow {w w' : World} {b : Nat} (h : By w w' b) (ds : Array Value) : By w (w'.setRow b ds) b :=
  h.trans ⟨rfl, rfl, rfl, by simp [World.setRow], fun k hk hne => by
    simp only [World.setRow, Array.getElem?_modify]
    rw [if_neg (fun e => hne (by rw [e]))]⟩
theorem res_cell_tmp {P : Program} {fn : Func} {p q : Tmp} {ty : TypeId} (h : fn.results = #[.cell p ty, .tmp q]) (tmps : Array Value) (w : World) (g : Nat) (t : TypeId) (cs : Array Value) (d : TypeDesc)
    (hp : tmps.getD p undef = .pointer (some ⟨g, 0, none⟩)) (hg : At w g cs t)
    (hu : P.underlying ty = some d) (hd : (match d with | .struct _ | .array _ _ => true | _ => false) = true) (hi : (P.info? ty).map (·.size) = some cs.size) :
    (results fn tmps).run P w = .ok (.tuple #[.agg cs, tmps.getD q undef]) w := by
  have hp' : tmps[p]?.getD undef = .pointer (some ⟨g, 0, none⟩) := by simpa using hp
  have hl := run_loadVar_row (P := P) w g t ty cs (0, 0) d hg hu hd hi
  simp [results, h, hp', asAddr, hl]
/-- the block that a value leads to -/
def NotIn (b : Nat) (v : Value) : Prop := ∀ a n c, v = .slice (some a) n c → a.block ≠ b
theorem SliceOf.notIn {α : Type} {sz : Nat} {enc : α → List Value} {w : World} {v : Value} {l : List α} {b : Nat} (hsz : ∀ x, (enc x).length = sz) (h0 : 0 < sz)
    (h : SliceOf sz enc w v l) (hl : l ≠ []) (hb : w.heap.size ≤ b) : NotIn b v := by
  rcases h with ⟨h, -⟩ | ⟨b', off, n, c, h1, h2, hn, h3, h4, h5⟩
  · exact absurd h hl
  · intro a n' c' e hab
    rw [h1] at e
    cases e
    cases l with
    | nil => exact hl rfl
    | cons p l =>
      have e := h5 0 p rfl 0 h0
      rw [List.getElem?_eq_getElem (by rw [hsz]; exact h0)] at e
      have := World.block_lt_of_cell? _ _ e
      simp at this hab
      omega
theorem SliceOf.by_ {α : Type} {sz : Nat} {enc : α → List Value} {w w' : World} {b : Nat} {v : Value} {l : List α} (hsz : ∀ x, (enc x).length = sz)
    (h : SliceOf sz enc w v l) (hu : By w w' b) (hn : NotIn b v) : SliceOf sz enc w' v l := by
  rcases h with h | ⟨b', off, n, c, h1, h2, h0, h3, h4, h5⟩
  · exact Or.inl h
  · refine Or.inr ⟨b', off, n, c, h1, h2, h0, h3, h4, fun k p hp j hj => ?_⟩
    have e := h5 k p hp j hj
    have hl : j < (enc p).length := by rw [hsz]; exact hj
    rw [List.getElem?_eq_getElem hl] at e ⊢
    exact hu.cell e (by have := hn _ _ _ h1; simpa using this)
theorem flat_get {α : Type} {sz : Nat} {enc : α → List Value} (hsz : ∀ x, (enc x).length = sz) : ∀ (l : List α) (k : Nat) (p : α) (j : Nat), l[k]? = some p → j < sz → (l.map enc).flatten[k * sz + j]? = (enc p)[j]?
  | [], k, p, j, h, _ => by simp at h
  | q :: l, 0, p, j, h, hj => by
    simp at h; subst h
    simp only [List.map_cons, List.flatten_cons, Nat.zero_mul, Nat.zero_add]
    rw [List.getElem?_append_left (by rw [hsz]; exact hj)]
  | q :: l, k + 1, p, j, h, hj => by
    simp at h
    simp only [List.map_cons, List.flatten_cons]
    rw [List.getElem?_append_right (by rw [hsz, Nat.succ_mul]; omega), hsz, show (k + 1) * sz + j - sz = k * sz + j by rw [Nat.succ_mul]; omega]
    exact flat_get hsz l k p j h hj
theorem SliceOf.of_at {α : Type} {sz : Nat} {enc : α → List Value} {w : World} {b : Nat} {cs : Array Value} {t : TypeId} {l : List α} (hsz : ∀ x, (enc x).length = sz) (hA : At w b cs t) (hcs : cs.toList = (l.map enc).flatten)
    (n : Nat) (hn : l.length = n) (h0 : 0 < n) (hm : n ≤ 9223372036854775807) : SliceOf sz enc w (.slice (some ⟨b, 0, none⟩) n n) l := by
  refine Or.inr ⟨b, 0, n, n, rfl, hn, h0, Nat.le_refl _, hm, fun k p hp j hj => ?_⟩
  rw [Nat.zero_add, hA.cell, ← Array.getElem?_toList, hcs]
  exact flat_get hsz l k p j hp hj
end Go.Cat
