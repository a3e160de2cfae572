/- Helper text LawNum: what some functions of the program do, walked. -/
import Derived.Test.YtecnoagkfdkpfaaGreatDoorNum
import Derived.Deep.DeepCutAuto
import Derived.Deep.CutBlock
namespace Go.Proofs.Zd
open Go.RowKit Go.Cat
theorem isEmpty_of (s : ByteArray) (h : 0 < s.size) : s.toList.isEmpty = false := by
  rw [tl]
  have : s.data.toList.length = s.size := by rw [Array.length_toList]; rfl
  cases h2 : s.data.toList with
  | nil => rw [h2] at this; simp at this; omega
  | cons a b => rfl
theorem isEmpty_no (s : ByteArray) (h : s.size = 0) : s.toList.isEmpty = true := by
  rw [tl]
  have : s.data.toList.length = s.size := by rw [Array.length_toList]; rfl
  cases h2 : s.data.toList with
  | nil => rfl
  | cons a b => rw [h2] at this; simp at this; omega
theorem data_len (s : ByteArray) : s.data.toList.length = s.size := by rw [Array.length_toList]; rfl
theorem data_get (s : ByteArray) (i : Nat) (h : i < s.size) : s.data.toList[i]? = some s[i] := by
  rw [Array.getElem?_toList]
  exact Array.getElem?_eq_getElem (by exact h)
theorem data_head (s : ByteArray) (h : 0 < s.size) : s.data.toList.head? = some s[0] := by
  rw [List.head?_eq_getElem?]; exact data_get s 0 h
theorem take_next (l : List UInt8) (k : Nat) (c : UInt8) (h : l[k]? = some c) : l.take (k + 1) = l.take k ++ [c] := by
  rw [List.take_add_one, h]; rfl
theorem toNat_inj_int {c : UInt8} (h : (((c.toNat : Int) == 48) : Bool) = true) : c.toNat = 48 := by have := eq_of_beq h; omega
theorem no_empty {B : Bool} {d : ByteArray} (h : d.size = 0) : ¬ Shape B d.data.toList := by
  rintro ⟨h1, -⟩
  have := data_len d
  rw [h] at this
  exact h1 (List.eq_nil_of_length_eq_zero this)
theorem no_long {B : Bool} {d : ByteArray} (h : 19 < d.size) : ¬ Shape B d.data.toList := by
  rintro ⟨-, h1, -⟩
  have := data_len d
  omega
theorem no_zero {B : Bool} {d : ByteArray} (h0 : 0 < d.size) (h : (((d[0].toNat : Int) == 48) : Bool) = true) (h1 : 1 < d.size ∨ B = true) : ¬ Shape B d.data.toList := by
  rintro ⟨-, -, -, h2, -⟩
  have := data_len d
  have h3 := h2 _ (data_head d h0) (toNat_inj_int h)
  rcases h1 with h1 | h1
  · omega
  · rw [h1] at h3; simp at h3
theorem no_digit {B : Bool} {d : ByteArray} (k : Nat) (hk : k < d.size) (h : (d[k].toNat : Int) < 48 ∨ (57 : Int) < d[k].toNat) : ¬ Shape B d.data.toList := by
  rintro ⟨-, -, h2, -⟩
  have := h2 d[k] (List.mem_of_getElem? (data_get d k hk))
  omega
theorem val_small {d : ByteArray} (hd : d.size ≤ 19) (k : Nat) (hk : k ≤ d.size) (h : digs (d.data.toList.take k)) : val 0 (d.data.toList.take k) < 10000000000000000000 := by
  have h1 := val_lt _ h 0
  have h2 : (d.data.toList.take k).length ≤ 19 := by rw [List.length_take, data_len]; omega
  have h3 : 10 ^ (d.data.toList.take k).length ≤ 10 ^ 19 := Nat.pow_le_pow_right (by omega) h2
  have h4 : (10 : Nat) ^ 19 = 10000000000000000000 := by decide
  omega
theorem val_small2 {d : ByteArray} (hd : d.size ≤ 19) (k : Nat) (hk : k < d.size) (h : digs (d.data.toList.take k)) : val 0 (d.data.toList.take k) < 1000000000000000000 := by
  have h1 := val_lt _ h 0
  have h2 : (d.data.toList.take k).length ≤ 18 := by rw [List.length_take, data_len]; omega
  have h3 : 10 ^ (d.data.toList.take k).length ≤ 10 ^ 18 := Nat.pow_le_pow_right (by omega) h2
  have h4 : (10 : Nat) ^ 18 = 1000000000000000000 := by decide
  omega
theorem head_ne {B : Bool} {d : ByteArray} (h0 : 0 < d.size) (h : (((d[0].toNat : Int) == 48) : Bool) = false) : ∀ c, d.data.toList.head? = some c → c.toNat = 48 → d.data.toList.length = 1 ∧ B = false := by
  intro c hc h48
  rw [data_head d h0] at hc
  cases hc
  rw [h48] at h
  simp at h
theorem head_one {d : ByteArray} (h0 : 0 < d.size) (h : ¬ 1 < d.size) : ∀ c, d.data.toList.head? = some c → c.toNat = 48 → d.data.toList.length = 1 ∧ false = false := by
  intro c hc h48
  have := data_len d
  exact ⟨by omega, rfl⟩
theorem digs_snoc {l : List UInt8} {c : UInt8} (h : digs l) (h1 : ¬ (c.toNat : Int) < 48) (h2 : ¬ (57 : Int) < c.toNat) : digs (l ++ [c]) := by
  intro x hx
  rcases List.mem_append.1 hx with hx | hx
  · exact h x hx
  · rw [List.mem_singleton.1 hx]; omega
theorem step_int {X : Nat} {c : UInt8} (h1 : ¬ (c.toNat : Int) < 48) : ((Go.Cat.step X c : Nat) : Int) = (X : Int) * 10 + ((c.toNat : Int) - 48) := by
  rw [step_eq]; omega
theorem val_zero : Value.int IntKind.u64 0 = Value.int IntKind.u64 ((val 0 ([] : List UInt8) : Nat) : Int) := by rw [val_nil]; rfl
/-- how the digits end, with a sign -/
theorem end_true {d : ByteArray} (h0 : 0 < d.size) (h19 : ¬ 19 < d.size) (hdg : digs d.data.toList) (hh : ∀ c, d.data.toList.head? = some c → c.toNat = 48 → d.data.toList.length = 1 ∧ true = false) :
    (NN true d.data.toList).2 = decide ((val 0 d.data.toList : Int) ≤ 9223372036854775808) ∧ ((NN true d.data.toList).2 = true → wrap64 (-(wrap64 (val 0 d.data.toList))) = (NN true d.data.toList).1) := by
  have hl := data_len d
  by_cases hv : val 0 d.data.toList ≤ 9223372036854775808
  · have hs : Shape true d.data.toList := ⟨fun e => by rw [e] at hl; simp at hl; omega, by omega, hdg, hh, by rw [if_pos rfl]; exact hv⟩
    have := (NN_of (fun h => by cases h)).1 hs
    rw [this]
    refine ⟨by simp; omega, fun _ => ?_⟩
    simp only [if_true]
    generalize val 0 d.data.toList = X at *
    unfold wrap64
    omega
  · have hs : ¬ Shape true d.data.toList := fun h => hv (by have := h.2.2.2.2; rw [if_pos rfl] at this; exact this)
    rw [NN_no (fun h => by cases h) hs]
    exact ⟨by simp; omega, fun h => by cases h⟩
theorem end_false {d : ByteArray} (h0 : 0 < d.size) (h19 : ¬ 19 < d.size) (hdg : digs d.data.toList) (hh : ∀ c, d.data.toList.head? = some c → c.toNat = 48 → d.data.toList.length = 1 ∧ false = false) (h45 : ∀ c, d.data.toList.head? = some c → c.toNat ≠ 45) :
    (NN false d.data.toList).2 = decide ((val 0 d.data.toList : Int) < 9223372036854775808) ∧ ((NN false d.data.toList).2 = true → wrap64 (val 0 d.data.toList) = (NN false d.data.toList).1) := by
  have hl := data_len d
  by_cases hv : val 0 d.data.toList < 9223372036854775808
  · have hs : Shape false d.data.toList := ⟨fun e => by rw [e] at hl; simp at hl; omega, by omega, hdg, hh, by rw [if_neg (by decide)]; exact hv⟩
    have := (NN_of (fun _ => h45)).1 hs
    rw [this]
    refine ⟨by simp; omega, fun _ => ?_⟩
    simp only [Bool.false_eq_true, if_false]
    generalize val 0 d.data.toList = X at *
    unfold wrap64
    omega
  · have hs : ¬ Shape false d.data.toList := fun h => hv (by have := h.2.2.2.2; rw [if_neg (by decide)] at this; exact this)
    rw [NN_no (fun _ => h45) hs]
    exact ⟨by simp; omega, fun h => by cases h⟩
theorem ret2i {m : Int} {b b' : Bool} (h : b = b') : Ending.returned (.tuple #[.int .i64 m, .bool b']) = Ending.returned (.tuple #[.int .i64 m, .bool b]) := by rw [h]
theorem endT {d : ByteArray} (h0 : 0 < d.size) (h19 : ¬ 19 < d.size) (hdg : digs d.data.toList) (hh : ∀ (B : Bool) c, d.data.toList.head? = some c → c.toNat = 48 → d.data.toList.length = 1 ∧ B = false) (_ : true = true) :
    (NN true d.data.toList).2 = decide ((val 0 d.data.toList : Int) ≤ 9223372036854775808) ∧ ((NN true d.data.toList).2 = true → wrap64 (-(wrap64 (val 0 d.data.toList))) = (NN true d.data.toList).1) := end_true h0 h19 hdg (hh true)
theorem endF1 {d : ByteArray} (h0 : 0 < d.size) (h19 : ¬ 19 < d.size) (hdg : digs d.data.toList) (hh : ∀ (B : Bool) c, d.data.toList.head? = some c → c.toNat = 48 → d.data.toList.length = 1 ∧ B = false) (h45 : True → ∀ c, d.data.toList.head? = some c → c.toNat ≠ 45) :
    (NN false d.data.toList).2 = decide ((val 0 d.data.toList : Int) < 9223372036854775808) ∧ ((NN false d.data.toList).2 = true → wrap64 (val 0 d.data.toList) = (NN false d.data.toList).1) := end_false h0 h19 hdg (hh false) (h45 trivial)
theorem endF2 {d : ByteArray} (h0 : 0 < d.size) (h19 : ¬ 19 < d.size) (hdg : digs d.data.toList) (hh : ∀ c, d.data.toList.head? = some c → c.toNat = 48 → d.data.toList.length = 1 ∧ True) (h45 : True → ∀ c, d.data.toList.head? = some c → c.toNat ≠ 45) :
    (NN false d.data.toList).2 = decide ((val 0 d.data.toList : Int) < 9223372036854775808) ∧ ((NN false d.data.toList).2 = true → wrap64 (val 0 d.data.toList) = (NN false d.data.toList).1) := end_false h0 h19 hdg (fun c a b => ⟨(hh c a b).1, rfl⟩) (h45 trivial)
set_option maxRecDepth 100000 in
set_option maxHeartbeats 1000000 in
theorem lawnum_any (s : ByteArray) (w : World) (hs : s.size ≤ 60) :
    Calls Tryz.prog 12 #[.string s] w fun e w' => (∃ m, e = .returned (.tuple #[.int .i64 m, .bool (numOf s.data.toList).2]) ∧ ((numOf s.data.toList).2 = true → m = (numOf s.data.toList).1)) ∧ w' = w := by
  by_cases h0 : 0 < s.size
  · have hne := isEmpty_of s h0
    cases hb : (((s[0].toNat : Int) == 45) : Bool)
    case' true =>
      have HS : ∃ d : ByteArray, d = s.extract 1 s.size ∧ Hid (numOf s.data.toList = NN true d.data.toList) ∧ d.size ≤ 60 := by
        have e1 : (s.extract 1 s.size).data.toList = s.data.toList.drop 1 := by
          rw [Lib.extract_data]
          exact List.take_of_length_le (by rw [List.length_drop, data_len]; exact Nat.le_refl _)
        refine ⟨_, rfl, ?_, by rw [ByteArray.size_extract]; omega⟩
        show numOf _ = numOf (if true = true then 45 :: _ else _)
        rw [if_pos rfl, e1]
        congr 1
        have hc := data_head s h0
        have h45 : s[0] = 45 := UInt8.toNat_inj.1 (by have := eq_of_beq hb; have h2 : (45 : UInt8).toNat = 45 := rfl; omega)
        cases hl : s.data.toList with
        | nil => rw [hl] at hc; simp at hc
        | cons x r => rw [hl] at hc; simp at hc; rw [hc, h45]; rfl
      obtain ⟨d, hd, HS, hd60⟩ := HS
      have H45 : Hid (true = false → ∀ c, d.data.toList.head? = some c → c.toNat ≠ 45) := Lib.hid (fun h => by cases h)
      go_enter Tryz.func12, Tryz.ntmps12
      go_upto_region 5 with (fail)
      rw [← hd]
      clear hd hb hne
    case' false =>
      have HS : Hid (numOf s.data.toList = NN false s.data.toList) := Lib.hid rfl
      have H45 : Hid (false = false → ∀ c, s.data.toList.head? = some c → c.toNat ≠ 45) := Lib.hid (fun _ c hc => by
        rw [data_head s h0] at hc
        cases hc
        intro h
        rw [h] at hb
        simp at hb)
      have hd60 := hs
      go_enter Tryz.func12, Tryz.ntmps12
      go_upto_region 5 with (fail)
      obtain ⟨d, rfl⟩ : ∃ d, d = s := ⟨s, rfl⟩
      clear hb hne
    all_goals
      by_cases e0 : d.size = 0
      · have he := isEmpty_no d e0
        have HP := NN_no H45.out (no_empty e0)
        have HQ := Lib.hid HP; clear HP
        go_wp2
        go_ret2
        rw [HS.out, HQ.out]
        exact ⟨⟨_, rfl, fun h => by cases h⟩, rfl⟩
      · have hd0 : 0 < d.size := by omega
        have he := isEmpty_of d hd0
        by_cases e19 : 19 < d.size
        · have HP := NN_no H45.out (no_long e19)
          have HQ := Lib.hid HP; clear HP
          go_wp2
          go_ret2
          rw [HS.out, HQ.out]
          exact ⟨⟨_, rfl, fun h => by cases h⟩, rfl⟩
        · have HNO := Lib.hid (fun h => NN_no (d := d.data.toList) H45.out h)
          have HYES := Lib.hid (NN_of H45.out).1
          have HE := Lib.hid H45
          clear H45
          have hd19 : decide ((19 : Int) < (d.size : Int)) = false := by simp; omega
          cases hz : (((d[0].toNat : Int) == 48) : Bool)
          case' true =>
            have HZ := Lib.hid (fun B h => no_zero (B := B) hd0 hz h)
            by_cases h1 : 1 < d.size
            case' pos =>
              go_wp2
              go_ret2
              rw [HS.out, HNO.out (HZ.out _ (Or.inl h1))]
              exact ⟨⟨_, rfl, fun h => by cases h⟩, rfl⟩
            have hd1 : decide ((1 : Int) < (d.size : Int)) = false := by simp; omega
            have HSH := Lib.hid (head_one hd0 h1)
            go_upto_block 0 with (fail)
            try
              (go_wp2
               go_ret2
               rw [HS.out, HNO.out (HZ.out _ (Or.inr rfl))]
               exact ⟨⟨_, rfl, fun h => by cases h⟩, rfl⟩)
          case' false =>
            have HSH := Lib.hid (fun B => head_ne (B := B) hd0 hz)
            go_upto_block 0 with (fail)
          all_goals
            try clear hz
            go_wp2
            go_loop [6, 41] (fun x i => ∃ k : Nat, k ≤ d.size ∧ i = .int .i64 k ∧ x = .int .u64 (val 0 (d.data.toList.take k) : Nat) ∧ Hid (digs (d.data.toList.take k))) (fun _ i => d.size - (intOf i).toNat)
            case atStart => exact ⟨0, Nat.zero_le _, rfl, val_zero, fun c hc => by simp at hc⟩
            case round =>
              obtain ⟨k, hk, rfl, rfl, hdg⟩ := hrel
              by_cases hlt : k < d.size
              · have HNX := Lib.hid (take_next _ k _ (data_get d k hlt))
                have hsm := val_small2 (by omega) k hlt hdg.out
                by_cases c1 : (d[k].toNat : Int) < 48
                · have HQ := Lib.hid (HNO.out (no_digit k hlt (Or.inl c1)))
                  go_wp2
                  go_ret2
                  rw [HS.out, HQ.out]
                  exact ⟨⟨_, rfl, fun h => by cases h⟩, rfl⟩
                · by_cases c2 : (57 : Int) < d[k].toNat
                  · have HQ := Lib.hid (HNO.out (no_digit k hlt (Or.inr c2)))
                    go_wp2
                    go_ret2
                    rw [HS.out, HQ.out]
                    exact ⟨⟨_, rfl, fun h => by cases h⟩, rfl⟩
                  · have HD2 := Lib.hid (digs_snoc hdg.out c1 c2)
                    have HST := Lib.hid (step_int (X := val 0 (d.data.toList.take k)) c1)
                    go_wp2
                    go_round
                    case rel => exact ⟨k + 1, by omega, by go_num, by rw [HNX.out, val_snoc, HST.out], by rw [HNX.out]; exact HD2.out⟩
                    case measure => simp [intOf]; omega
              · have hke : k = d.size := by omega
                subst hke
                have htk : d.data.toList.take d.size = d.data.toList := List.take_of_length_le (by rw [data_len]; exact Nat.le_refl _)
                rw [htk] at hdg ⊢
                go_wp2
                go_ret2
                rw [HS.out]
                first
                  | exact ⟨⟨_, ret2i (endT hd0 e19 hdg.out HSH.out rfl).1, (endT hd0 e19 hdg.out HSH.out rfl).2⟩, rfl⟩
                  | exact ⟨⟨_, ret2i (endF1 hd0 e19 hdg.out HSH.out HE.out.out).1, (endF1 hd0 e19 hdg.out HSH.out HE.out.out).2⟩, rfl⟩
                  | exact ⟨⟨_, ret2i (endF2 hd0 e19 hdg.out HSH.out HE.out.out).1, (endF2 hd0 e19 hdg.out HSH.out HE.out.out).2⟩, rfl⟩
  · have he := isEmpty_no s (by omega)
    have hs0 : s.size = 0 := by omega
    have HP := NN_no (below := false) (fun _ c hc => by
      have := data_len s
      rw [List.eq_nil_of_length_eq_zero (this.trans hs0)] at hc
      simp at hc) (no_empty hs0)
    have HQ := Lib.hid HP
    clear HP
    go_enter Tryz.func12, Tryz.ntmps12
    go_wp2
    go_ret2
    rw [show (numOf s.data.toList).2 = false from HQ.out]
    exact ⟨⟨_, rfl, fun h => by cases h⟩, rfl⟩
end Go.Proofs.Zd
