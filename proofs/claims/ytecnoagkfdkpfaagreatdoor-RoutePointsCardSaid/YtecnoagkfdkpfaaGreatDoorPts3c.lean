/- Helper text Pts3c: what some functions of the program do, walked. -/
import Derived.Test.YtecnoagkfdkpfaaGreatDoorPts3b
namespace Go.Proofs.Zd
open Go.RowKit Go.Cat
section
variable {w : World} {B g n cap m i : Nat} {l : List (Int × Int)} {is : List Nat} {p : Int × Int}
theorem PRows.row (h : PRows w B (.slice (some ⟨g, 0, none⟩) n cap) l is) (hl : is.length = n) (hm : m < n) (hi : is[m]? = some i) : ∀ q, q < 6 → w.cell? ⟨g, m * 6 + q, none⟩ = (rowV (.slice (some ⟨i, 0, none⟩) 2 2))[q]? := fun q hq => by
  have hown := h.own
  rw [hl] at hown
  rw [hown.cellAt (m * 6 + q) (by omega)]
  rw [show flatRow is = (is.map encRow).flatten from rfl, flat_get encRow_len is m i q hi hq]
  match q, hq with
  | 0, _ | 1, _ | 2, _ | 3, _ | 4, _ | 5, _ => rfl
theorem PRows.gi (h : PRows w B (.slice (some ⟨g, 0, none⟩) n cap) l is) (hi : is[m]? = some i) (hp : l[m]? = some p) : g ≠ i := fun e => (h.each m i p hi hp).2.1 (by rw [e]; rfl)
theorem other {a b : Addr} {v : Value} (h : a ≠ b) : (w.setCell a v).cell? b = w.cell? b := World.cell?_setCell_other (h := h) ..
theorem same {a : Addr} {u v : Value} (h : w.cell? a = some u) : (w.setCell a v).cell? a = some v := World.cell?_setCell_same _ _ _ h
/-- the second number's kind turned -/
theorem bad2 (h : PRows w B (.slice (some ⟨g, 0, none⟩) n cap) l is) (hl : is.length = n) (hm : m < n) (hln : l.length = n) (hi : is[m]? = some i) (hp : l[m]? = some p) :
    BadRow (w.setCell ⟨i, 6, none⟩ (.int .i64 3)) g m ∧ ∀ j p, (l.take m)[j]? = some p → GoodRow (w.setCell ⟨i, 6, none⟩ (.int .i64 3)) g j p := by
  have hgi := h.gi hi hp
  have hA := (h.each m i p hi hp).1
  refine ⟨Or.inr (Or.inr ⟨i, 2, fun q hq => ?_, ?_, ?_⟩), h.good_after hl hm (fun j hj q hq => ?_) (fun j i' hj hi' q => ?_)⟩
  · rw [other (by intro e; injection e; omega)]; exact h.row hl hm hi q hq
  · rw [other (by intro e; injection e; omega)]; exact hA.cell 0
  · exact same (hA.cell 6)
  · exact other (by intro e; injection e; omega)
  · have := h.ne hj hi hi'
    exact other (by intro e; injection e; omega)
/-- the row cut to one number -/
theorem bad1 (h : PRows w B (.slice (some ⟨g, 0, none⟩) n cap) l is) (hl : is.length = n) (hm : m < n) (hln : l.length = n) (hi : is[m]? = some i) (hp : l[m]? = some p) :
    BadRow (w.setCell ⟨g, m * 6 + 4, none⟩ (.slice (some ⟨i, 0, none⟩) 1 2)) g m ∧ ∀ j p, (l.take m)[j]? = some p → GoodRow (w.setCell ⟨g, m * 6 + 4, none⟩ (.slice (some ⟨i, 0, none⟩) 1 2)) g j p := by
  have hr := h.row hl hm hi
  refine ⟨Or.inr (Or.inl ⟨i, 2, fun q hq => ?_⟩), h.good_after hl hm (fun j hj q hq => ?_) (fun j i' hj hi' q => ?_)⟩
  · match q, hq with
    | 4, _ => exact same (hr 4 (by omega))
    | 0, _ => exact (other (by intro e; injection e; omega)).trans (hr 0 (by omega))
    | 1, _ => exact (other (by intro e; injection e; omega)).trans (hr 1 (by omega))
    | 2, _ => exact (other (by intro e; injection e; omega)).trans (hr 2 (by omega))
    | 3, _ => exact (other (by intro e; injection e; omega)).trans (hr 3 (by omega))
    | 5, _ => exact (other (by intro e; injection e; omega)).trans (hr 5 (by omega))
  · exact other (by intro e; injection e; omega)
  · have : g ≠ i' := h.gi hi' (List.getElem?_eq_getElem (by have := (List.getElem?_eq_some_iff.1 hi').1; omega : j < l.length))
    exact other (by intro e; injection e; omega)
/-- the row replaced by a number -/
theorem bad0 (h : PRows w B (.slice (some ⟨g, 0, none⟩) n cap) l is) (hl : is.length = n) (hm : m < n) (hln : l.length = n) (hi : is[m]? = some i) (hp : l[m]? = some p) {w' : World}
    (hw : w' = (((((w.setCell ⟨g, m * 6, none⟩ (.int .i64 2)).setCell ⟨g, m * 6 + 1, none⟩ (.bool false)).setCell ⟨g, m * 6 + 2, none⟩ (.int .i64 5)).setCell ⟨g, m * 6 + 3, none⟩ (.string ⟨#[]⟩)).setCell ⟨g, m * 6 + 4, none⟩ (.slice none 0 0)).setCell ⟨g, m * 6 + 5, none⟩ (.slice none 0 0)) :
    BadRow w' g m ∧ ∀ j p, (l.take m)[j]? = some p → GoodRow w' g j p := by
  have hr := h.row hl hm hi
  subst hw
  refine ⟨Or.inl ⟨_, rfl, fun q hq => ?_⟩, h.good_after hl hm (fun j hj q hq => ?_) (fun j i' hj hi' q => ?_)⟩
  · match q, hq with
    | 0, _ => simp only [Nat.add_zero]; rw [other (by intro e; injection e; omega), other (by intro e; injection e; omega), other (by intro e; injection e; omega), other (by intro e; injection e; omega), other (by intro e; injection e; omega)]; exact same (hr 0 (by omega))
    | 1, _ => rw [other (by intro e; injection e; omega), other (by intro e; injection e; omega), other (by intro e; injection e; omega), other (by intro e; injection e; omega)]; exact same ((other (by intro e; injection e; omega)).trans (hr 1 (by omega)))
    | 2, _ => rw [other (by intro e; injection e; omega), other (by intro e; injection e; omega), other (by intro e; injection e; omega)]; exact same ((other (by intro e; injection e; omega)).trans ((other (by intro e; injection e; omega)).trans (hr 2 (by omega))))
    | 3, _ => rw [other (by intro e; injection e; omega), other (by intro e; injection e; omega)]; exact same ((other (by intro e; injection e; omega)).trans ((other (by intro e; injection e; omega)).trans ((other (by intro e; injection e; omega)).trans (hr 3 (by omega)))))
    | 4, _ => rw [other (by intro e; injection e; omega)]; exact same ((other (by intro e; injection e; omega)).trans ((other (by intro e; injection e; omega)).trans ((other (by intro e; injection e; omega)).trans ((other (by intro e; injection e; omega)).trans (hr 4 (by omega))))))
    | 5, _ => exact same ((other (by intro e; injection e; omega)).trans ((other (by intro e; injection e; omega)).trans ((other (by intro e; injection e; omega)).trans ((other (by intro e; injection e; omega)).trans ((other (by intro e; injection e; omega)).trans (hr 5 (by omega)))))))
  · iterate 6 rw [other (by intro e; injection e; omega)]
  · have : g ≠ i' := h.gi hi' (List.getElem?_eq_getElem (by have := (List.getElem?_eq_some_iff.1 hi').1; omega : j < l.length))
    have hx : ∀ q', (⟨g, q', none⟩ : Addr) ≠ ⟨i', q, none⟩ := fun q' => by intro e; injection e; omega
    iterate 6 rw [other (hx _)]
end
end Go.Proofs.Zd
