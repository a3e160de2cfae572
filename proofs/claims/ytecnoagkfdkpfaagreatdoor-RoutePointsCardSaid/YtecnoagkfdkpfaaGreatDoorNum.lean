/- Helper text Num: what some functions of the program do, walked. -/
import Derived.Test.YtecnoagkfdkpfaaGreatDoorEnv
import Derived.Test.YtecnoagkfdkpfaaGreatDoorPlNum
import Derived.Lib.ParseIntBTie
namespace Go.Proofs.Zd
open Go.RowKit Go.Cat
/-- what is no number: an error -/
theorem parse_fails (s : ByteArray) (w : World) (hs : s.size ≤ 281474976710656) (hE : Env w) (h : ∀ v, Lib.parseIntB 64 s.data.toList ≠ .ok v) :
    Calls Tryz.prog 39 #[.string s, .int .i64 10, .int .i64 64] w fun e w' => ∃ x N, e = .returned (.tuple #[.int .i64 x, .iface 158 (.pointer (some ⟨N, 0, none⟩))]) ∧ Up w w' := by
  rcases hp : Lib.parseIntB 64 s.data.toList with v | _ | _
  · exact absurd hp (h v)
  · obtain ⟨te, pe, hsy⟩ := hE.syn
    exact (Any.strconv_ParseInt_10_at64_syntax Tryz.laysC174 s hs hp _ w hsy (Or.inr ⟨te, pe, rfl⟩)).mono fun e w' ⟨N, he, _, _, hu⟩ => ⟨0, N, he, hu⟩
  · obtain ⟨te, pe, hsy⟩ := hE.rng
    exact (Any.strconv_ParseInt_10_at64_range Tryz.laysC174 s hs hp _ w hsy (Or.inr ⟨te, pe, rfl⟩)).mono fun e w' ⟨N, he, _, _, hu⟩ => ⟨_, N, he, hu⟩
set_option maxHeartbeats 400000 in
theorem number_any (s : ByteArray) (w : World) (hs : s.size ≤ 281474976710656) (hE : Env w) :
    Calls Tryz.prog 11 #[.string s] w fun e w' => e = .returned (.tuple #[.int .i64 (numOf s.data.toList).1, .bool (numOf s.data.toList).2]) ∧ Up w w' := by
  by_cases hex : ∃ v, Lib.parseIntB 64 s.data.toList = .ok v
  · obtain ⟨v, hp⟩ := hex
    have hv := Lib.parseIntB_bounds hp
    have H1 := Tryz.strconv_ParseInt_10_at64_ok s (by omega) v hp w
    have hv1 : -9223372036854775808 ≤ v ∧ v ≤ 9223372036854775807 := by
      have := hv.1; have := hv.2; simp at *; omega
    clear hv
    have key : ∀ b, (Lib.itoa v == s.data.toList) = b → Hid (numOf s.data.toList = if b = true then (v, true) else (0, false)) := by
      intro b hb; cases b
      · exact numOf_no hp hb
      · exact numOf_yes hp hb
    clear hp
    cases ht : (Lib.itoa v == s.data.toList)
    all_goals
      have HF := Lib.hid (key _ ht)
      have HT := Lib.hid ht; clear ht key
      go_enter Tryz.func11, Tryz.ntmps11
      go_wp2_with fail
      refine H1.mono ?_
      rintro e w1 ⟨rfl, hw1⟩
      have hu : Up w w1 := by rcases hw1 with rfl | ⟨t, rfl⟩; exact Up.refl _; exact up_bytes _ _ _
      clear hw1 H1
      have hE1 := hE.up hu
      go_wp2_with fail
      refine (Tryz.strconv_FormatInt_10 v hv1.1 hv1.2 _ hE1.tab).mono ?_
      rintro e w2 ⟨rfl, k, os, hw2⟩
      have hu2 : Up w1 w2 := by subst hw2; exact up_grow _ _ _
      clear hw2
      have ht2 := HT.out
      rw [← tl] at ht2
      go_wp2
      go_ret2
      rw [show numOf s.data.toList = _ from HF.out]
      exact ⟨rfl, hu.trans hu2⟩
  · have hno : ∀ v, Lib.parseIntB 64 s.data.toList ≠ .ok v := fun v hv => hex ⟨v, hv⟩
    have H1 := parse_fails s w hs hE hno
    have HF := Lib.hid (numOf_fails hno); clear hex hno
    go_enter Tryz.func11, Tryz.ntmps11
    go_wp2_with fail
    refine H1.mono ?_
    rintro e w1 ⟨x, N, rfl, hu⟩
    clear H1
    go_wp2
    go_ret2
    rw [HF.out]; exact ⟨rfl, hu⟩
end Go.Proofs.Zd
