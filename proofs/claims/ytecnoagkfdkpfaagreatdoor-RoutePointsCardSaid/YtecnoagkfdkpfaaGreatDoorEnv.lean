/- What the library's own variables hold, and that it stands in every later world. -/
import Derived.Test.YtecnoagkfdkpfaaGreatDoorShelf
import Derived.Test.YtecnoagkfdkpfaaGreatDoorW0
import Derived.Test.YtecnoagkfdkpfaaGreatDoorW2
import Derived.Lib.AppendIntMem
import Derived.Lib.AtoiErrMem
import Derived.Lib.SlBytesConst
import Derived.KernelRfl
namespace Go.Proofs.Zd
open Go.RowKit Go.Cat
structure Env (w : World) : Prop where
  big : 9 ≤ w.heap.size
  maxlen : ∃ m, w.cell? ⟨0, 0, none⟩ = some (.int .i64 m)
  syn : ∃ te pe, w.cell? ⟨1, 0, none⟩ = some (.iface te pe)
  rng : ∃ te pe, w.cell? ⟨2, 0, none⟩ = some (.iface te pe)
  tab : Lib.TabIs Tryz.prog w "internal/strconv.uint64pow10" .u64 Lib.pow10Tab
theorem gTab : Tryz.prog.globalNamed "internal/strconv.uint64pow10" = some 3 := by kernel_rfl
theorem lt_of_var {P : Program} {w : World} {n : String} {g : Nat} {cs : Array Value} (hg : P.globalNamed n = some g) (h : w.var? P n = some cs) : g < w.heap.size := by
  unfold World.var? at h
  simp only [hg, Option.bind_some] at h
  split at h
  · rename_i hh; exact (Array.getElem?_eq_some_iff.1 hh).1
  · cases h
theorem Env.up {w w' : World} (h : Env w) (hu : Up w w') : Env w' := by
  obtain ⟨m, hm⟩ := h.maxlen
  obtain ⟨a, b, hs⟩ := h.syn
  obtain ⟨c, d, hr⟩ := h.rng
  exact ⟨Nat.le_trans h.big hu.size, ⟨m, hu.cell hm⟩, ⟨a, b, hu.cell hs⟩, ⟨c, d, hu.cell hr⟩, var?_below hu gTab (lt_of_var gTab h.tab) h.tab⟩
/-- a write into a block that is none of the variables' -/
theorem Env.by_ {w w' : World} {b : Nat} (h : Env w) (hu : By w w' b) (hb : 8 < b) : Env w' := by
  obtain ⟨m, hm⟩ := h.maxlen
  obtain ⟨a, x, hs⟩ := h.syn
  obtain ⟨c, d, hr⟩ := h.rng
  refine ⟨Nat.le_trans h.big hu.size, ⟨m, hu.cell hm (by simp; omega)⟩, ⟨a, x, hu.cell hs (by simp; omega)⟩, ⟨c, d, hu.cell hr (by simp; omega)⟩, ?_⟩
  have ht := h.tab
  have hlt := lt_of_var gTab ht
  unfold Lib.TabIs World.var? at ht ⊢
  simp only [gTab, Option.bind_some] at ht ⊢
  rw [hu.block 3 hlt (by simp; omega)]
  exact ht
theorem up_grow (w : World) (k : Nat) (os : Array Obj) : Up w (Go.«Sort».grow (w.drewN k) os) := Go.Lib.below_grow _ w (Nat.le_refl _) k os
theorem up_drewN (w : World) (k : Nat) : Up w (w.drewN k) := below_drewN (Below.refl _ _) k
theorem up_bytes (w : World) (t : TypeId) (s : ByteArray) : Up w (Lib.bytesWorld w t s) := Go.Lib.bytesWorld_below w t s
end Go.Proofs.Zd
