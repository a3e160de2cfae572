/- Helper text Route4: what some functions of the program do, walked. -/
import Derived.Test.YtecnoagkfdkpfaaGreatDoorRoute3
namespace Go.Proofs.Zd
open Go.RowKit Go.Cat
abbrev sFrom : ByteArray := ⟨#[102, 114, 111, 109]⟩
abbrev sTo : ByteArray := ⟨#[116, 111]⟩
/-- from and to are there, are numbers, and there are so many pairs -/
def spanOk (l : List (ByteArray × ByteArray)) (n : Int) : Bool :=
  (((((lookP sFrom l).2 && (lookP sTo l).2) && (numOf (lookP sFrom l).1.data.toList).2) && (numOf (lookP sTo l).1.data.toList).2) && ((l.length : Int) == n))
theorem Up.froz {w wx : World} (hb : Up w wx) {a : Addr} {v : Value} (h : w.cell? a = some v) (f : w.frozen? a = false) : wx.frozen? a = false :=
  (hb.frozen (World.block_lt_of_cell? _ _ h)).trans f
theorem encPair_len (x : ByteArray × ByteArray) : (encPair x).length = 2 := rfl
theorem SliceOf.shape {α : Type} {sz : Nat} {enc : α → List Value} {w : World} {v : Value} {l : List α} (h : SliceOf sz enc w v l) : ∃ a c, v = .slice a l.length c := by
  rcases h with ⟨rfl, a, c, rfl⟩ | ⟨b, off, n, c, rfl, rfl, h0, hlc, hcm, hc⟩
  · exact ⟨a, c, rfl⟩
  · exact ⟨_, c, rfl⟩
set_option maxHeartbeats 400000 in
theorem span_any (l : List (ByteArray × ByteArray)) (v : Value) (n : Int) (bx ox : Nat) (o1 o2 : Value) (w : World) (hl : SliceOf 2 encPair w v l) (hE : Env w)
    (hs1 : (lookP sFrom l).1.size ≤ 281474976710656) (hs2 : (lookP sTo l).1.size ≤ 281474976710656)
    (h1 : w.cell? ⟨bx, ox, none⟩ = some o1) (h2 : w.cell? ⟨bx, ox + 1, none⟩ = some o2) (f1 : w.frozen? ⟨bx, ox, none⟩ = false) (f2 : w.frozen? ⟨bx, ox + 1, none⟩ = false) :
    Calls Tryz.prog 152 #[v, .int .i64 n, .pointer (some ⟨bx, ox, none⟩)] w fun e w' => e = .returned (.bool (spanOk l n)) ∧
      ∃ w1, Up w w1 ∧ w' = (w1.setCell ⟨bx, ox, none⟩ (.int .i64 (numOf (lookP sFrom l).1.data.toList).1)).setCell ⟨bx, ox + 1, none⟩ (.int .i64 (numOf (lookP sTo l).1.data.toList).1) := by
  go_enter Tryz.func152, Tryz.ntmps152
  go_wp2_with fail
  refine (value_any l sFrom v w hl).mono ?_
  rintro e w1 ⟨rfl, hu1⟩
  have hl1 := hl.up encPair_len hu1
  go_wp2_with fail
  refine (value_any l sTo v w1 hl1).mono ?_
  rintro e w2 ⟨rfl, hu2⟩
  have hu12 := hu1.trans hu2
  have hE2 := hE.up hu12
  go_wp2_with fail
  refine (number_any _ w2 hs1 hE2).mono ?_
  rintro e w3 ⟨rfl, hu3⟩
  have hu13 := hu12.trans hu3
  have hE3 := hE.up hu13
  go_wp2_with fail
  refine (number_any _ w3 hs2 hE3).mono ?_
  rintro e w4 ⟨rfl, hu4⟩
  have hu14 := hu13.trans hu4
  have g1 := hu14.cell h1
  have g2 := hu14.cell h2
  have k1 := Up.froz hu14 h1 f1
  have k2 := Up.froz hu14 h2 f2
  obtain ⟨a, c, hv⟩ := SliceOf.shape hl
  rw [hv]
  clear hl hl1 hv hE hE2 hE3 h1 h2 f1 f2 hu1 hu2 hu3 hu4 hu12 hu13
  have HU := Lib.hid hu14; clear hu14
  go_wp2
  all_goals
    go_ret
    exact ⟨by simp [spanOk, *], w4, HU.out, rfl⟩
end Go.Proofs.Zd
