/- Plain: decimal numerals; which text is a number. No program. -/
import Derived.Lib.ParseIntBTie
import Derived.Lib.ItoaNum
import Derived.Lib.ItoaLen
namespace Go.Cat
open Go.Lib
def step (x : Nat) (c : UInt8) : Nat := x * 10 + (c.toNat - 48)
theorem step_eq (x : Nat) (c : UInt8) : step x c = x * 10 + (c.toNat - 48) := rfl
attribute [irreducible] step
def val (acc : Nat) (l : List UInt8) : Nat := l.foldl step acc
theorem val_nil (a : Nat) : val a [] = a := rfl
theorem val_cons (a : Nat) (c : UInt8) (r : List UInt8) : val a (c :: r) = val (step a c) r := rfl
theorem val_snoc (l : List UInt8) (a : Nat) (c : UInt8) : val a (l ++ [c]) = step (val a l) c := by unfold val; rw [List.foldl_append]; rfl
attribute [irreducible] val
def digs (l : List UInt8) : Prop := ∀ c ∈ l, 48 ≤ c.toNat ∧ c.toNat ≤ 57
theorem val_mono (l : List UInt8) : ∀ a : Nat, a ≤ val a l := by
  induction l with
  | nil => intro a; rw [val_nil]; exact Nat.le_refl _
  | cons c r ih =>
    intro a
    rw [val_cons]
    have := ih (step a c)
    rw [step_eq] at this ⊢
    omega
theorem parse_ok : ∀ (l : List UInt8) (a u : Nat), parseUint10 a l = .ok u → digs l ∧ u = val a l
  | [], a, u, h => by simp only [parseUint10] at h; injection h with h; exact ⟨fun c hc => (List.not_mem_nil hc).elim, by rw [val_nil]; exact h.symm⟩
  | c :: r, a, u, h => by
    simp only [parseUint10] at h
    split at h
    · rename_i hc
      split at h
      · cases h
      · split at h
        · cases h
        · obtain ⟨h1, h2⟩ := parse_ok r _ u h
          refine ⟨?_, by rw [val_cons, step_eq]; exact h2⟩
          intro x hx
          cases hx with
          | head => exact hc
          | tail _ hx => exact h1 x hx
    · cases h
theorem parse_of : ∀ (l : List UInt8) (a : Nat), digs l → val a l < 18446744073709551616 → parseUint10 a l = .ok (val a l)
  | [], a, _, _ => by rw [val_nil, parseUint10]
  | c :: r, a, hd, hv => by
    have hc := hd c (.head _)
    rw [val_cons] at hv ⊢
    have hm := val_mono r (step a c)
    rw [step_eq] at hv hm ⊢
    rw [parseUint10, if_pos hc, if_neg (by omega), if_neg (by omega)]
    exact parse_of r _ (fun x hx => hd x (.tail _ hx)) hv
theorem toNat_dig {u : Nat} (h : u < 10) : (UInt8.ofNat (48 + u)).toNat = 48 + u := by
  simp; omega
theorem dec_digs (u : Nat) : digs (decDigits u) := by
  induction u using Nat.strongRecOn with
  | _ u ih =>
    rw [decDigits]
    split
    · rename_i h; intro c hc; rw [List.mem_singleton.1 hc, toNat_dig h]; omega
    · rename_i h
      intro c hc
      rcases List.mem_append.1 hc with hc | hc
      · exact ih _ (by omega) c hc
      · rw [List.mem_singleton.1 hc, toNat_dig (by omega)]; omega
theorem dec_val (u : Nat) : val 0 (decDigits u) = u := by
  induction u using Nat.strongRecOn with
  | _ u ih =>
    rw [decDigits]
    split
    · rename_i h; rw [val_cons, val_nil, step_eq, toNat_dig h]; omega
    · rename_i h
      rw [val_snoc, ih _ (by omega), step_eq, toNat_dig (by omega)]; omega
theorem dec_ne (u : Nat) : decDigits u ≠ [] := by
  rw [decDigits]; split <;> simp
theorem dec_head (u : Nat) (hu : 1 ≤ u) : ∀ c, (decDigits u).head? = some c → c.toNat ≠ 48 := by
  induction u using Nat.strongRecOn with
  | _ u ih =>
    intro c hc
    rw [decDigits] at hc
    split at hc
    · rename_i h; simp at hc; subst hc; rw [show (48 + UInt8.ofNat u).toNat = 48 + u by have := toNat_dig h; simpa using this]; omega
    · rename_i h
      have hne := dec_ne (u / 10)
      cases hl : decDigits (u / 10) with
      | nil => exact absurd hl hne
      | cons x r =>
        rw [hl] at hc
        simp at hc
        exact ih (u / 10) (by omega) (by omega) c (by rw [hl]; simp [hc])
theorem dec_of_aux : ∀ (n : Nat) (l : List UInt8), l.length = n → l ≠ [] → digs l → (∀ c, l.head? = some c → c.toNat ≠ 48 ∨ l.length = 1) → decDigits (val 0 l) = l := by
  intro n
  induction n with
  | zero => intro l hn hne; cases l with | nil => exact absurd rfl hne | cons x r => simp at hn
  | succ n ih =>
    intro l hn hne hd hh
    obtain ⟨l', c, rfl⟩ : ∃ l' c, l = l' ++ [c] := ⟨l.dropLast, l.getLast hne, (List.dropLast_concat_getLast hne).symm⟩
    have hc := hd c (by simp)
    have hcc : UInt8.ofNat (48 + (c.toNat - 48)) = c := by
      apply UInt8.toNat_inj.1
      rw [toNat_dig (by omega)]; omega
    rw [val_snoc, step_eq]
    cases l' with
    | nil =>
      rw [val_nil]; simp only [List.nil_append]
      rw [decDigits, dif_pos (by omega)]
      rw [show 0 * 10 + (c.toNat - 48) = c.toNat - 48 by omega, hcc]
    | cons x r =>
      have hx := hh x (by simp)
      simp at hx
      have hx2 := hd x (by simp)
      have hv : 1 ≤ val 0 (x :: r) := by
        rw [val_cons]
        have := val_mono r (step 0 x)
        rw [step_eq] at this ⊢
        omega
      rw [decDigits, dif_neg (by omega), show (val 0 (x :: r) * 10 + (c.toNat - 48)) / 10 = val 0 (x :: r) by omega, show (val 0 (x :: r) * 10 + (c.toNat - 48)) % 10 = c.toNat - 48 by omega, hcc]
      rw [ih (x :: r) (by simpa using hn) (by simp) (fun y hy => hd y (List.mem_append_left _ hy)) (fun y hy => by simp at hy; subst hy; exact Or.inl hx)]
theorem dec_of (l : List UInt8) (hne : l ≠ []) (hd : digs l) (hh : ∀ c, l.head? = some c → c.toNat ≠ 48 ∨ l.length = 1) : decDigits (val 0 l) = l := dec_of_aux _ l rfl hne hd hh
/-- which text is a number, by the program -/
def numOf (s : List UInt8) : Int × Bool :=
  match parseIntB 64 s with
  | .ok v => if (itoa v == s) = true then (v, true) else (0, false)
  | _ => (0, false)
theorem numOf_yes {s : List UInt8} {v : Int} (h : parseIntB 64 s = .ok v) (e : (itoa v == s) = true) : numOf s = (v, true) := by simp only [numOf, h]; rw [if_pos e]
theorem numOf_no {s : List UInt8} {v : Int} (h : parseIntB 64 s = .ok v) (e : (itoa v == s) = false) : numOf s = (0, false) := by simp only [numOf, h]; rw [if_neg (by simp [e])]
theorem numOf_fails {s : List UInt8} (h : ∀ v, parseIntB 64 s ≠ .ok v) : numOf s = (0, false) := by
  unfold numOf
  split
  · rename_i v hv; exact absurd hv (h v)
  · rfl

theorem val_lt (l : List UInt8) (hd : digs l) : ∀ a, val a l < (a + 1) * 10 ^ l.length := by
  induction l with
  | nil => intro a; rw [val_nil]; simp
  | cons c r ih =>
    intro a
    have hc := hd c (.head _)
    have := ih (fun x hx => hd x (.tail _ hx)) (step a c)
    rw [val_cons]
    rw [step_eq] at this ⊢
    have h2 : (a * 10 + (c.toNat - 48) + 1) * 10 ^ r.length ≤ ((a + 1) * 10) * 10 ^ r.length := Nat.mul_le_mul_right _ (by omega)
    have h3 : (a + 1) * 10 ^ (c :: r).length = ((a + 1) * 10) * 10 ^ r.length := by rw [List.length_cons, Nat.pow_succ, Nat.mul_assoc, Nat.mul_comm (10 ^ r.length) 10]
    omega
theorem dec_len {u : Nat} (h : u < 10000000000000000000) : (decDigits u).length ≤ 19 := by
  rcases Nat.lt_or_ge 19 (decDigits u).length with hl | hl
  · exfalso
    cases hd : decDigits u with
    | nil => rw [hd] at hl; simp at hl
    | cons x r =>
      rw [hd] at hl
      simp at hl
      have hu : 1 ≤ u := by
        rcases Nat.eq_zero_or_pos u with h0 | h0
        · subst h0; rw [decDigits, dif_pos (by omega)] at hd; simp at hd; rw [hd.2] at hl; simp at hl
        · exact h0
      have hx := dec_head u hu x (by rw [hd]; rfl)
      have hdg := dec_digs u
      have hv := dec_val u
      rw [hd] at hdg hv
      have hx2 := hdg x (.head _)
      rw [val_cons, step_eq] at hv
      have hlow : ∀ (l : List UInt8) (a : Nat), a * 10 ^ l.length ≤ val a l := by
        intro l
        induction l with
        | nil => intro a; rw [val_nil]; simp
        | cons c r ih =>
          intro a
          rw [val_cons]
          have := ih (step a c)
          rw [step_eq] at this ⊢
          have h3 : a * 10 ^ (c :: r).length = (a * 10) * 10 ^ r.length := by rw [List.length_cons, Nat.pow_succ, Nat.mul_assoc, Nat.mul_comm (10 ^ r.length) 10]
          have h2 : (a * 10) * 10 ^ r.length ≤ (a * 10 + (c.toNat - 48)) * 10 ^ r.length := Nat.mul_le_mul_right _ (by omega)
          omega
      have h1 := hlow r (0 * 10 + (x.toNat - 48))
      have h2 : 1 * 10 ^ 19 ≤ (0 * 10 + (x.toNat - 48)) * 10 ^ r.length := Nat.mul_le_mul (by omega) (Nat.pow_le_pow_right (by omega) (by omega))
      have h4 : (10 : Nat) ^ 19 = 10000000000000000000 := by decide
      omega
  · exact hl
theorem mag_dec {u : Nat} (h : u < 18446744073709551616) : parseMag (decDigits u) = .ok u := by
  unfold parseMag
  rw [if_neg (dec_ne u), parse_of _ _ (dec_digs u) (by rw [dec_val]; exact h), dec_val]
/-- what stands behind the sign is a numeral as it is written -/
def Shape (below : Bool) (d : List UInt8) : Prop :=
  d ≠ [] ∧ d.length ≤ 19 ∧ digs d ∧ (∀ c, d.head? = some c → c.toNat = 48 → d.length = 1 ∧ below = false) ∧ (if below = true then val 0 d ≤ 9223372036854775808 else val 0 d < 9223372036854775808)
theorem num_plain {d : List UInt8} (h45 : ∀ c, d.head? = some c → c.toNat ≠ 45) :
    (Shape false d → numOf d = ((val 0 d : Int), true)) ∧ ((numOf d).2 = true → Shape false d) := by
  constructor
  · rintro ⟨hne, hl, hd, hh, hv⟩
    rw [if_neg (by decide)] at hv
    have hdec : decDigits (val 0 d) = d := dec_of d hne hd (fun c hc => by
      rcases Nat.decEq c.toNat 48 with h | h
      · exact Or.inl h
      · exact Or.inr (hh c hc h).1)
    have hp : parseIntB 64 d = .ok (val 0 d : Int) := by
      rw [parseIntB_64]
      cases hq : d with
      | nil => exact absurd hq hne
      | cons c r =>
        have h1 := h45 c (by rw [hq]; rfl)
        have h2 := (hd c (by rw [hq]; exact .head _))
        simp only [atoiAll]
        rw [if_neg (by omega), ← hq, show parseMag d = .ok (val 0 d) by rw [← mag_dec (u := val 0 d) (by omega), hdec]]
        simp only [h1, not_false_eq_true, true_and, false_and, if_false]
        rw [if_neg (by omega)]
    unfold numOf
    rw [hp]
    simp only []
    rw [show itoa (val 0 d : Int) = d by unfold itoa; rw [if_neg (by omega), Int.toNat_natCast, hdec]]
    simp
  · intro h
    have hex : ∃ v, parseIntB 64 d = .ok v := Classical.byContradiction fun hn => by
      rw [numOf_fails fun v hv => hn ⟨v, hv⟩] at h
      cases h
    obtain ⟨v, hp⟩ := hex
    unfold numOf at h
    · 
      rw [hp] at h
      simp only [] at h
      split at h
      · rename_i hit
        have hit : itoa v = d := by simpa using hit
        have hb := parseIntB_bounds hp
        have hb2 : v < 9223372036854775808 := by have := hb.2; simp at this; omega
        have hv : ¬ v < 0 := by
          intro hv
          unfold itoa at hit
          rw [if_pos hv] at hit
          exact h45 45 (by rw [← hit]; rfl) rfl
        unfold itoa at hit
        rw [if_neg hv] at hit
        subst hit
        refine ⟨dec_ne _, dec_len (by omega), dec_digs _, ?_, ?_⟩
        · intro c hc h48
          rcases Nat.eq_zero_or_pos v.toNat with h0 | h0
          · rw [h0, decDigits_one (by omega)]; exact ⟨rfl, rfl⟩
          · exact absurd h48 (dec_head _ h0 c hc)
        · rw [if_neg (by decide), dec_val]; omega
      · simp at h
theorem num_below {d : List UInt8} :
    (Shape true d → numOf (45 :: d) = (-(val 0 d : Int), true)) ∧ ((numOf (45 :: d)).2 = true → Shape true d) := by
  constructor
  · rintro ⟨hne, hl, hd, hh, hv⟩
    rw [if_pos rfl] at hv
    have h48 : ∀ c, d.head? = some c → c.toNat ≠ 48 := fun c hc h => by have := (hh c hc h).2; simp at this
    have hdec : decDigits (val 0 d) = d := dec_of d hne hd (fun c hc => Or.inl (h48 c hc))
    have hpos : 1 ≤ val 0 d := by
      cases hq : d with
      | nil => exact absurd hq hne
      | cons c r =>
        have h1 := h48 c (by rw [hq]; rfl)
        have h2 := (hd c (by rw [hq]; exact .head _))
        rw [val_cons]
        have := val_mono r (step 0 c)
        rw [step_eq] at this ⊢
        omega
    have hp : parseIntB 64 (45 :: d) = .ok (-(val 0 d : Int)) := by
      rw [parseIntB_64]
      simp only [atoiAll]
      rw [if_pos (show UInt8.toNat 45 = 43 ∨ UInt8.toNat 45 = 45 from Or.inr rfl), show parseMag d = .ok (val 0 d) by rw [← mag_dec (u := val 0 d) (by omega), hdec]]
      simp only [show (45 : UInt8).toNat = 45 from rfl, not_true_eq_false, true_and, false_and, if_false, if_true]
      rw [if_neg (by omega)]
    unfold numOf
    rw [hp]
    simp only []
    rw [show itoa (-(val 0 d : Int)) = 45 :: d by unfold itoa; rw [if_pos (by omega), Int.natAbs_neg, Int.natAbs_natCast, hdec]]
    simp
  · intro h
    have hex : ∃ v, parseIntB 64 (45 :: d) = .ok v := Classical.byContradiction fun hn => by
      rw [numOf_fails fun v hv => hn ⟨v, hv⟩] at h
      cases h
    obtain ⟨v, hp⟩ := hex
    unfold numOf at h
    · 
      rw [hp] at h
      simp only [] at h
      split at h
      · rename_i hit
        have hit : itoa v = 45 :: d := by simpa using hit
        have hb := parseIntB_bounds hp
        have hb2 : -9223372036854775808 ≤ v := by have := hb.1; simp at this; omega
        have hv : v < 0 := by
          rcases Int.lt_or_le v 0 with h0 | h0
          · exact h0
          · exfalso
            unfold itoa at hit
            rw [if_neg (by omega)] at hit
            have := dec_digs v.toNat 45 (by rw [hit]; exact .head _)
            have h45 : (45 : UInt8).toNat = 45 := rfl
            omega
        unfold itoa at hit
        rw [if_pos hv] at hit
        have hit : decDigits v.natAbs = d := by simpa using hit
        subst hit
        refine ⟨dec_ne _, dec_len (by omega), dec_digs _, ?_, ?_⟩
        · intro c hc h48
          exact absurd h48 (dec_head _ (by omega) c hc)
        · rw [if_pos rfl, dec_val]; omega
      · simp at h
/-- the number that a sign and digits tell -/
def NN (below : Bool) (d : List UInt8) : Int × Bool := numOf (if below = true then 45 :: d else d)
theorem NN_of {below : Bool} {d : List UInt8} (h45 : below = false → ∀ c, d.head? = some c → c.toNat ≠ 45) :
    (Shape below d → NN below d = (if below = true then -(val 0 d : Int) else (val 0 d : Int), true)) ∧ ((NN below d).2 = true → Shape below d) := by
  cases below with
  | true => exact num_below
  | false => exact num_plain (h45 rfl)
theorem NN_no {below : Bool} {d : List UInt8} (h45 : below = false → ∀ c, d.head? = some c → c.toNat ≠ 45) (h : ¬ Shape below d) : (NN below d).2 = false := by
  cases hb : (NN below d).2 with
  | false => rfl
  | true => exact absurd ((NN_of h45).2 hb) h
end Go.Cat
