/- Words of mine: what a slice of structs holds, in a world; worlds that have only grown. No program. -/
import Derived.WalkKit
import Derived.WalkSpells
import Derived.WalkLawsBesides
import Derived.Lib.Hide
namespace Go.Cat
open Go.RowKit
theorem tl (s : ByteArray) : s.toList = s.data.toList := ByteArray.toList_eq s
/-- the world has only grown -/
abbrev Up (w w' : World) : Prop := Below w.heap.size w w'
theorem Up.refl (w : World) : Up w w := Below.refl _ _
theorem Up.trans {a b c : World} (h : Up a b) (k : Up b c) : Up a c := Below.trans h (k.mono h.size)
theorem Up.alloc {a b : World} (h : Up a b) (o : Obj) : Up a (b.alloc o) := Below.alloc h h.size o
theorem Up.drew {a b : World} (h : Up a b) : Up a b.drew := Below.drew h
theorem Up.cell {w wx : World} (hb : Up w wx) {a : Addr} {v : Value} (h : w.cell? a = some v) : wx.cell? a = some v := cell_later hb h
/-- a slice of things of sz cells each -/
def SliceOf {α : Type} (sz : Nat) (enc : α → List Value) (w : World) (v : Value) (l : List α) : Prop :=
  (l = [] ∧ ∃ a c, v = .slice a 0 c) ∨
  (∃ b off n c, v = .slice (some ⟨b, off, none⟩) n c ∧ l.length = n ∧ 0 < n ∧ n ≤ c ∧ c ≤ 9223372036854775807 ∧
    ∀ k p, l[k]? = some p → ∀ j, j < sz → w.cell? ⟨b, off + k * sz + j, none⟩ = (enc p)[j]?)
theorem SliceOf.up {α : Type} {sz : Nat} {enc : α → List Value} {w w' : World} {v : Value} {l : List α} (hsz : ∀ x, (enc x).length = sz)
    (h : SliceOf sz enc w v l) (hu : Up w w') : SliceOf sz enc w' v l := by
  rcases h with h | ⟨b, off, n, c, h1, h2, h0, h3, h4, h5⟩
  · exact Or.inl h
  · refine Or.inr ⟨b, off, n, c, h1, h2, h0, h3, h4, fun k p hp j hj => ?_⟩
    have e := h5 k p hp j hj
    have hl : j < (enc p).length := by rw [hsz]; exact hj
    rw [List.getElem?_eq_getElem hl] at e ⊢
    exact hu.cell e
/-- the k-th thing, and what is left -/
theorem drop_at {α : Type} (l : List α) (k : Nat) (h : k < l.length) : ∃ p, l[k]? = some p ∧ l.drop k = p :: l.drop (k + 1) :=
  ⟨l[k], by simp, List.drop_eq_getElem_cons h⟩
end Go.Cat
