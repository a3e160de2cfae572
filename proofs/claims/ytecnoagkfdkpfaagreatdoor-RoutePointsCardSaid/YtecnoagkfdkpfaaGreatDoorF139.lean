/- Helper text F139: what some functions of the program do, walked. -/
import Derived.Test.YtecnoagkfdkpfaaGreatDoorProg
import Derived.Test.YtecnoagkfdkpfaaGreatDoorW0
import Derived.Deep.DeepCutAuto
namespace Go.Proofs.Zd
open Go.RowKit Go.Cat
def encPair (p : ByteArray × ByteArray) : List Value := [.string p.1, .string p.2]
def lookP (nm : ByteArray) : List (ByteArray × ByteArray) → ByteArray × Bool
  | [] => (⟨#[]⟩, false)
  | p :: l => if (p.1.toList == nm.toList) = true then (p.2, true) else lookP nm l
set_option maxHeartbeats 400000 in
theorem value_any (l : List (ByteArray × ByteArray)) (nm : ByteArray) (v : Value) (w : World) (h : SliceOf 2 encPair w v l) :
    Calls Tryz.prog 139 #[v, .string nm] w fun e w' => e = .returned (.tuple #[.string (lookP nm l).1, .bool (lookP nm l).2]) ∧ Up w w' := by
  rcases h with ⟨rfl, a, c, rfl⟩ | ⟨b, off, n, c, rfl, hn, h0, hlc, hcm, hc⟩
  · go_enter Tryz.func139, Tryz.ntmps139
    go_wp2
    go_loopw [10] (fun s10 wr => s10 = .int .i64 0 ∧ wr = w) (fun _ _ => 0)
    case atStart => exact ⟨rfl, rfl⟩
    case round =>
      obtain ⟨rfl, rfl⟩ := hrel
      go_wp2
      go_ret2
      exact ⟨rfl, Up.refl _⟩
  · have HN := Lib.hid hn
    have HC := Lib.hid hc; clear hc
    clear hn
    go_enter Tryz.func139, Tryz.ntmps139
    go_wp2
    go_loopw [4, 5, 7, 10, 11, 12, 13, 14, 15, 16, 17, 18, 19, 20] (fun s4 s5 s7 s10 s11 s12 s13 s14 s15 s16 s17 s18 s19 s20 wr => ∃ k : Nat, k ≤ n ∧ s10 = .int .i64 k ∧ Up w wr ∧ Hid (lookP nm l = lookP nm (l.drop k))) (fun _ _ _ i _ _ _ _ _ _ _ _ _ _ _ => n - (intOf i).toNat)
    case atStart => exact ⟨0, Nat.zero_le _, rfl, Up.refl _, rfl⟩
    case round =>
      obtain ⟨k, hk, rfl, hb, HL⟩ := hrel
      by_cases hlt : k < n
      · obtain ⟨p, hp, hd⟩ := drop_at l k (by rw [HN.out]; exact hlt)
        have h1 := hb.cell (HC.out k p hp 0 (by omega))
        have h2 := hb.cell (HC.out k p hp 1 (by omega))
        have HD := Lib.hid hd; clear hd hp
        simp only [Nat.add_zero] at h1
        by_cases ht : (p.1.toList == nm.toList) = true
        · go_wp2
          go_ret2
          rw [HL.out, HD.out, lookP, if_pos ht]
          exact ⟨rfl, hb.alloc _⟩
        · have ht' : (p.1.toList == nm.toList) = false := by simpa using ht
          go_wp2
          go_roundw
          case rel => exact ⟨k + 1, by omega, by go_num, hb.alloc _, by rw [HL.out, HD.out, lookP, if_neg ht]; rfl⟩
          case measure => simp [intOf]; omega
      · have : k = n := by omega
        subst this
        go_wp2
        go_ret2
        rw [HL.out, List.drop_of_length_le (by rw [HN.out]; exact Nat.le_refl _)]
        exact ⟨rfl, hb⟩
end Go.Proofs.Zd
