/- Helper text Route1: what some functions of the program do, walked. -/
import Derived.Test.YtecnoagkfdkpfaaGreatDoorNum
import Derived.Test.YtecnoagkfdkpfaaGreatDoorF139
namespace Go.Proofs.Zd
open Go.RowKit Go.Cat
def tierOf (s : List UInt8) : Int × Bool := if (s == [114,97,119]) = true then (0,true) else if (s == [109,105,100]) = true then (1,true) else if (s == [108,111,110,103]) = true then (2,true) else (0,false)
set_option maxHeartbeats 400000 in
theorem tier_any (s : ByteArray) (w : World) :
    Calls Tryz.prog 151 #[.string s] w fun e w' => e = .returned (.tuple #[.int .i64 (tierOf s.data.toList).1, .bool (tierOf s.data.toList).2]) ∧ w = w' := by
  rw [← tl]
  go_enter Tryz.func151, Tryz.ntmps151
  go_wp2
  all_goals
    go_ret2
    simp [tierOf, *]
/-- the parts of a path -/
def partsOf (s : List UInt8) : List ByteArray :=
  Lib.splitB ⟨#[47]⟩ 0 (Lib.countB ⟨(Lib.trimPrefix s [47]).toArray⟩ ⟨#[47]⟩) ⟨(Lib.trimPrefix s [47]).toArray⟩
set_option maxHeartbeats 400000 in
theorem parts_any (s : ByteArray) (w : World) (hE : Env w) (hs : (Lib.trimPrefix s.data.toList [47]).length < 4294967281) :
    Calls Tryz.prog 62 #[.string s] w fun e w' => e = .returned (.slice (some ⟨w.heap.size, 0, none⟩) (Lib.countB ⟨(Lib.trimPrefix s.data.toList [47]).toArray⟩ ⟨#[47]⟩ + 1) (Lib.countB ⟨(Lib.trimPrefix s.data.toList [47]).toArray⟩ ⟨#[47]⟩ + 1)) ∧
      w' = w.alloc (.cells ((partsOf s.data.toList).map Value.string).toArray 9) := by
  obtain ⟨m, hm⟩ := hE.maxlen
  go_enter Tryz.func62, Tryz.ntmps62
  go_wp2_with fail
  refine (Tryz.strings_TrimPrefix _ _ _).mono ?_
  rintro e w1 ⟨rfl, rfl⟩
  go_wp2_with fail
  refine (Tryz.strings_Split _ _ m _ (by show Array.size _ < _; simpa using hs) hm (by decide)).mono ?_
  rintro e w1 ⟨rfl, rfl⟩
  go_wp2
  go_ret
  exact ⟨rfl, rfl⟩
end Go.Proofs.Zd
