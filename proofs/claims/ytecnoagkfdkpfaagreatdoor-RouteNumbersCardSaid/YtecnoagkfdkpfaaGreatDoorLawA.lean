/- Helper text LawA: what some functions of the program do, walked. -/
import Derived.Test.YtecnoagkfdkpfaaGreatDoorLawNum
import Derived.Test.YtecnoagkfdkpfaaGreatDoorLives32
namespace Go.Proofs.Zd
open Go.RowKit Go.Cat
theorem numOf_zero {s : List UInt8} (h : (numOf s).2 = false) : (numOf s).1 = 0 := by
  unfold numOf at *
  split at h
  · split at h
    · cases h
    · rename_i h1; rw [if_neg h1]
  · rfl
set_option maxRecDepth 100000 in
set_option maxHeartbeats 1000000 in
theorem RouteNumbers_any (s : ByteArray) (w : World) (hE : Env w) :
    Calls Tryz.prog 3 #[.string s] w fun e w' => e = .returned (.bool true) ∧ Up w w' := by
  by_cases hs : 60 < s.size
  · go_enter Tryz.func3, Tryz.ntmps3
    go_wp2_with fail
    refine (lives32 w hE).mono ?_
    rintro e w1 ⟨rfl, hu1⟩
    have hE1 := hE.up hu1
    go_wp2_with fail
    refine (lives32 w1 hE1).mono ?_
    rintro e w2 ⟨rfl, hu2⟩
    go_wp2
    go_ret
    exact ⟨rfl, hu1.trans hu2⟩
  · go_enter Tryz.func3, Tryz.ntmps3
    go_wp2_with fail
    refine (lives32 w hE).mono ?_
    rintro e w1 ⟨rfl, hu1⟩
    have hE1 := hE.up hu1
    go_wp2_with fail
    refine (number_any s w1 (by omega) hE1).mono ?_
    rintro e w2 ⟨rfl, hu2⟩
    go_wp2_with fail
    refine (lawnum_any s w2 (by omega)).mono ?_
    rintro e w3 ⟨⟨m, rfl, hm⟩, rfl⟩
    have hU := Lib.hid (hu1.trans hu2)
    clear hu1 hu2 hE hE1
    cases hb : (numOf s.data.toList).2
    · have h0 := numOf_zero hb
      clear hm
      go_wp2
      all_goals
        go_ret
        exact ⟨rfl, hU.out⟩
    · have h1 := hm hb
      subst h1
      clear hm
      go_wp2
      all_goals
        go_ret
        exact ⟨rfl, hU.out⟩
end Go.Proofs.Zd
