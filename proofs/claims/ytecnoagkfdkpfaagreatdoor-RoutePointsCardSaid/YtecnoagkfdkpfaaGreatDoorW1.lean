/- Words of mine: a map of string keys, entry by entry. No program. -/
import Derived.Test.YtecnoagkfdkpfaaGreatDoorW0
import Derived.WideMake
import Derived.KernelRfl
namespace Go.Cat
open Go.RowKit
open Go.MapKept (run_checkKey run_findKey run_setObj_map heap_alloc IsKey)
variable {P : Program}
theorem push_set {α : Type} (a : Array α) (x y : α) : (a.push x).setIfInBounds a.size y = a.push y := by
  apply Array.ext_getElem?
  intro i
  simp only [Array.getElem?_setIfInBounds, Array.getElem?_push, Array.size_push]
  by_cases h : a.size = i
  · subst h; simp
  · have h' : ¬ i = a.size := fun e => h e.symm
    simp [h, h']
theorem set_push (w : World) (o o' : Obj) : ({ w.alloc o with heap := (w.alloc o).heap.setIfInBounds w.heap.size o' } : World) = w.alloc o' := by
  show World.mk ((w.heap.push o).setIfInBounds w.heap.size o') _ _ _ _ = World.mk (w.heap.push o') _ _ _ _
  rw [push_set]; rfl
/-- a new key into a map that the call has just made -/
theorem run_mapUpdate_alloc {T K E : TypeId} (hT : P.underlying T = some (.map K E)) (hK : P.underlying K = some .string) (s : ByteArray) (v : Value) (es : Array MapEntry) (c : Nat) (w : World)
    (hf : Instr.findNow .string (.string s) es.toList 0 = some none) :
    (Instr.mapUpdate T (.map (some w.heap.size)) (.string s) v).run P (w.alloc (.map es c)) = .ok () (w.alloc (.map (es.push ⟨.string s, v, c⟩) (c + 1))) := by
  have hb := (heap_alloc w (.map es c)).1
  have hc : (Instr.checkKey false 10000 K (.string s)).run P (w.alloc (.map es c)) = .ok () (w.alloc (.map es c)) := run_checkKey (k := .string s) hK (by simp [IsKey]) false 9999
  simp [Instr.mapUpdate, run_underlying hT, MapKept.run_getObj_map hb, hc, run_findKey hK hf, run_setObj_map _ hb, Result.andThen]
  exact set_push _ _ _
theorem set_push_under (w : World) (o o' o2 : Obj) : ({ (w.alloc o).alloc o2 with heap := ((w.alloc o).alloc o2).heap.setIfInBounds w.heap.size o' } : World) = (w.alloc o').alloc o2 := by
  have e : ((w.heap.push o).push o2).setIfInBounds w.heap.size o' = (w.heap.push o').push o2 := by
    apply Array.ext_getElem?
    intro i
    simp only [Array.getElem?_setIfInBounds, Array.getElem?_push, Array.size_push]
    by_cases h : w.heap.size = i
    · subst h; simp; omega
    · have h' : ¬ i = w.heap.size := fun e => h e.symm
      simp [h, h']
  show World.mk (((w.heap.push o).push o2).setIfInBounds w.heap.size o') _ _ _ _ = World.mk ((w.heap.push o').push o2) _ _ _ _
  rw [e]; rfl
/-- the same, one block behind the map -/
theorem run_mapUpdate_under {T K E : TypeId} (hT : P.underlying T = some (.map K E)) (hK : P.underlying K = some .string) (s : ByteArray) (v : Value) (es : Array MapEntry) (c : Nat) (w : World) (o : Obj)
    (hf : Instr.findNow .string (.string s) es.toList 0 = some none) :
    (Instr.mapUpdate T (.map (some w.heap.size)) (.string s) v).run P ((w.alloc (.map es c)).alloc o) = .ok () ((w.alloc (.map (es.push ⟨.string s, v, c⟩) (c + 1))).alloc o) := by
  have hb : ((w.alloc (.map es c)).alloc o).heap[w.heap.size]? = some (.map es c) := ((heap_alloc (w.alloc (.map es c)) o).2 _ (by simp)).trans (heap_alloc w (.map es c)).1
  have hc : (Instr.checkKey false 10000 K (.string s)).run P ((w.alloc (.map es c)).alloc o) = .ok () ((w.alloc (.map es c)).alloc o) := run_checkKey (k := .string s) hK (by simp [IsKey]) false 9999
  simp [Instr.mapUpdate, run_underlying hT, MapKept.run_getObj_map hb, hc, run_findKey hK hf, run_setObj_map _ hb, Result.andThen]
  exact set_push_under _ _ _ _
/-- what a string's key has in a map -/
theorem run_lookup_at {T K E : TypeId} (hT : P.underlying T = some (.map K E)) (hK : P.underlying K = some .string) (s : ByteArray) (v : Value) (i r : Nat) (es : Array MapEntry) (c : Nat) (w : World)
    (hb : w.heap[r]? = some (.map es c)) (hf : Instr.findNow .string (.string s) es.toList 0 = some (some (i, v))) :
    (Instr.lookup T (.map (some r)) (.string s) false).run P w = .ok v w := by
  have hc : (Instr.checkKey es.isEmpty 10000 K (.string s)).run P w = .ok () w := run_checkKey (k := .string s) hK (by simp [IsKey]) _ 9999
  simp [Instr.lookup, run_underlying hT, MapKept.run_getObj_map hb, hc, run_findKey hK hf, Result.andThen]
theorem run_lookup_none {T K E : TypeId} (hT : P.underlying T = some (.map K E)) (hK : P.underlying K = some .string) (s : ByteArray) (z : Value) (r : Nat) (es : Array MapEntry) (c : Nat) (w : World)
    (hz : (zeroValue E).run P w = .ok z w) (hb : w.heap[r]? = some (.map es c)) (hf : Instr.findNow .string (.string s) es.toList 0 = some none) :
    (Instr.lookup T (.map (some r)) (.string s) false).run P w = .ok z w := by
  have hc : (Instr.checkKey es.isEmpty 10000 K (.string s)).run P w = .ok () w := run_checkKey (k := .string s) hK (by simp [IsKey]) _ 9999
  simp [Instr.lookup, run_underlying hT, MapKept.run_getObj_map hb, hc, run_findKey hK hf, hz, Result.andThen]
theorem run_equalIn_func_nil (w : World) (d : Nat) (t : TypeId) {ps rs : Array TypeId} {va : Bool} (fn : Fn) (a c : Array Value) (h : P.underlying t = some (.func ps rs va)) :
    (Op.equalIn (d + 1) t (.func fn a c) .nilFunc).run P w = .ok false w := by
  simp [Op.equalIn, run_underlying h]
theorem run_equalIn_nilFunc (w : World) (d : Nat) (t : TypeId) {ps rs : Array TypeId} {va : Bool} (h : P.underlying t = some (.func ps rs va)) :
    (Op.equalIn (d + 1) t .nilFunc .nilFunc).run P w = .ok true w := by
  simp [Op.equalIn, run_underlying h]
/-- 'f == nil' -/
theorem run_eql_func_nil (w : World) (t : TypeId) {ps rs : Array TypeId} {va : Bool} (fn : Fn) (a c : Array Value) (h : P.underlying t = some (.func ps rs va)) :
    (binOp .eql t (.func fn a c) .nilFunc).run P w = .ok (.bool false) w := by
  simp only [binOp]
  simp [Op.equal, Op.maxDepth, run_equalIn_func_nil w 9999 t fn a c h]
theorem run_eql_nilFunc (w : World) (t : TypeId) {ps rs : Array TypeId} {va : Bool} (h : P.underlying t = some (.func ps rs va)) :
    (binOp .eql t .nilFunc .nilFunc).run P w = .ok (.bool true) w := by
  simp only [binOp]
  simp [Op.equal, Op.maxDepth, run_equalIn_nilFunc w 9999 t h]
end Go.Cat
