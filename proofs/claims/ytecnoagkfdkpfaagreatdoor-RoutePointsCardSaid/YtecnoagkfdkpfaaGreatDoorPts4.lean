/- Helper text Pts4: what some functions of the program do, walked. -/
import Derived.Test.YtecnoagkfdkpfaaGreatDoorPts3c
import Derived.Deep.RegionHeld3
import Derived.Deep.RegionLaw
import Derived.StillTailTactics
namespace Go.Proofs.Zd
open Go.RowKit Go.Cat
set_option maxRecDepth 100000 in
set_option maxHeartbeats 4000000 in
theorem pts_main (l : List (Int × Int)) (lb lo n c : Nat) (a b : Nat) (w : World) (hn : l.length = n) (h0 : 0 < n) (h60 : n ≤ 60) (ha : a < 256) (hb : b < 256)
    (hc : ∀ k p, l[k]? = some p → w.cell? ⟨lb, lo + k * 2, none⟩ = some (.int .i64 p.1) ∧ w.cell? ⟨lb, lo + k * 2 + 1, none⟩ = some (.int .i64 p.2)) (hE : Env w) :
    Calls Tryz.prog 4 #[.slice (some ⟨lb, lo, none⟩) n c, .int .u8 a, .int .u8 b] w fun e w' => e = .returned (.bool true) ∧ Up w w' := by
  have HN := Lib.hid hn; clear hn
  have HC := Lib.hid hc; clear hc
  obtain ⟨i0, hi, hz0, hz1, hz2⟩ := info_parts info30
  go_enter Tryz.func4, Tryz.ntmps4
  go_wp2_with fail
  refine (lives32 w hE).mono ?_
  rintro e w1 ⟨rfl, hu1⟩
  clear hE
  go_wp2_with fail
  have hu2 := hu1.alloc (.cells (rowV (.slice none 0 0)) 30)
  have hA2 := At.new w1 (rowV (.slice none 0 0)) 30
  have hs1 := hu1.size
  generalize hW : w1.alloc (.cells _ 30) = w2 at *
  clear hW
  generalize hB : w1.heap.size = B at *
  clear hB hu1
  go_loopw [32] (fun s32 wr => ∃ k v is, k ≤ n ∧ s32 = .int .i64 (k : Nat) ∧ Up w wr ∧ At wr B (rowV v) 30 ∧ is.length = k ∧ PRows wr B v l is) (fun i _ => n - (intOf i).toNat)
  case atStart => exact ⟨0, .slice none 0 0, [], Nat.zero_le _, rfl, hu2, hA2, rfl, ⟨⟨rfl, Or.inl ⟨rfl, rfl⟩⟩, List.nodup_nil, fun j i p h => by simp at h⟩⟩
  case round =>
    clear hA2 hu2
    obtain ⟨k, v, is, hk, rfl, hb, hA, hlen, hR⟩ := hrel
    by_cases hlt : k < n
    · obtain ⟨p, hp, hd⟩ := drop_at l k (by rw [HN.out]; exact hlt)
      clear hd
      obtain ⟨c0, c1⟩ := HC.out k p hp
      have c0 := hb.cell c0
      have c1 := hb.cell c1
      go_upto_region 8 with (fail)
      have hb1 := hb.alloc (.cells #[.int .i64 p.1, .int .i64 p.2] 33)
      have hx := (Up.refl wr).alloc (.cells #[.int .i64 p.1, .int .i64 p.2] 33)
      have hn1 := At.new wr #[.int .i64 p.1, .int .i64 p.2] 33
      have hs2 : (wr.alloc (.cells #[.int .i64 p.1, .int .i64 p.2] 33)).heap.size = wr.heap.size + 1 := Array.size_push _
      generalize hW1 : wr.alloc (.cells #[.int .i64 p.1, .int .i64 p.2] 33) = wz at *
      clear hW1 c0 c1
      have hv0 := hR.own.lt
      have hk2 : (k + 1) * 88 ≤ 140737488355328 := by omega
      have hk1 : k + 1 ≤ maxLen := by simp only [maxLen]; omega
      have hAz := hA.up hx
      have hBlt := hA.lt
      have hvB : v.ownBlock ≠ some B := fun e => by have := hv0 B e; omega
      have hvT : v.ownBlock ≠ some wr.heap.size := fun e => by have := hv0 _ e; omega
      have e0 : wz.cell? ⟨wr.heap.size, 0, none⟩ = some (.int .i64 p.1) := hn1.cell 0
      have e1 : wz.cell? ⟨wr.heap.size, 1, none⟩ = some (.int .i64 p.2) := hn1.cell 1
      have a4 : wz.cell? ⟨B, 4, none⟩ = some v := hAz.cell 4
      have hown : wz.ownsRow (B + 1) 30 6 v k (flatRow is) := by rw [← hlen]; exact hR.own.kept (By.of_up hx B) (Or.inr hvB)
      have hU : Up wz wz.drew := (Up.refl wz).drew
      have h06 : 0 < 6 := by omega
      have h01 : 0 < 1 := by omega
      have hBz : B + 1 ≤ wz.heap.size := by omega
      have hTz : wr.heap.size < wz.heap.size := by omega
      have hBne : wr.heap.size ≠ B := by omega
      have hBne' : (some wr.heap.size : Option Nat) ≠ some B := by simpa using hBne
      go_region_law
        (first
          | (refine step_append_lies _ rfl _ _ _ rfl (B + 1) 30 i0 _ 6 88 rfl hi hz0 hz1 hz2 rfl h06 v k (flatRow is) rfl (((hown.kept (By.of_up hU B) (Or.inr hvB)).alloc _).alloc _) _ 1 1 (encRow wn.heap.size) rfl rfl (news2 _ _ _ _) (row_one _) h01 hk1 hk2 (Nat.le_trans hBz ((hU.alloc _).alloc _).size) _ rfl ?_; intro g cap wp hown2 hgrow hat hlt2; have hAp := (hAz.up ((hU.alloc _).alloc _)).grown hgrow (fun e => hvB e.symm); have b4 : wp.cell? ⟨B, 4, none⟩ = some v := hAp.cell 4; have bf := hAp.froz 4)
          | (go_simp; go_at_call 13; refine (num_any _ _).mono ?_; rintro e wn ⟨rfl, hu⟩; have hUn := hU.trans hu; clear hu hU; have hU := hUn; clear hUn; have e0' := hU.cell e0; have e1' := hU.cell e1; have a4' := hU.cell a4; have a4'' := fun o => (hU.alloc o).cell a4; have a43 := fun o o' => ((hU.alloc o).alloc o').cell a4)
          | fail)
      all_goals
        go_wp2_with (fail)
        obtain ⟨z1, z2⟩ := hR.step hA hx hU hlen hp hown2 hgrow hat
        have hz3 : Up w (wp.setCell ⟨B, 4, none⟩ (.slice (some ⟨g, 0, none⟩) (k + 1) cap)) :=
          By.to_up (Below.grown (((hb1.trans hU).alloc _).alloc _) hgrow (((hb1.trans hU).alloc _).alloc _).size (fun u hu => by have := hv0 u hu; omega)) ((By.refl wp B).set 4 _) hs1
        exact ⟨⟨k + 1, _, _, hlt, rfl, hz3, z1, by simp [hlen], z2⟩, by simp [intOf]; omega⟩
    · have e : k = n := by omega
      subst e
      clear hlt
      have hv0 := hR.own.lt
      obtain ⟨g, cap, rfl⟩ : ∃ g cap, v = .slice (some ⟨g, 0, none⟩) k cap := by
        have h := hR.own
        rw [hlen] at h
        obtain ⟨g, cap, h, -, -⟩ := h.form h0
        exact ⟨g, cap, h⟩
      have hG := Lib.hid (fun j p hp hj => hR.good hlen j p hp hj)
      have hAB := hA
      have k0 := hA.cell 0
      have k1 := hA.cell 1
      have k2 := hA.cell 2
      have k3 := hA.cell 3
      have k4 := hA.cell 4
      have k5 := hA.cell 5
      simp only [rowV, List.getElem?_toArray, List.getElem?_cons_zero, List.getElem?_cons_succ] at k0 k1 k2 k3 k4 k5
      go_wp2_with fail
      refine (points_all l g k cap wr HN.out h60 (fun j p hp => hG.out j p hp (by have := (List.getElem?_eq_some_iff.1 hp).1; have := HN.out; omega))).mono ?_
      rintro e w3 ⟨x, rfl, hx, hu3⟩
      obtain ⟨g3, cap3, rfl, hg3, hg3'⟩ := hx.form h0
      have HX := Lib.hid hx
      clear hx k0 k1 k2 k3 k4 k5
      have hBw := hAB.lt
      obtain ⟨wb, hwb⟩ : ∃ wb, wb = wr := ⟨wr, rfl⟩
      subst hwb
      go_wp2_with fail
      go_loopw [13, 68] (fun _ s68 wq => ∃ (j : Nat) (xs : List Value), j ≤ k ∧ s68 = .int .i64 (j : Nat) ∧ Up wb wq ∧ wq.ownsRow wb.heap.size 33 2 (.slice (some ⟨g3, 0, none⟩) k cap3) k xs ∧ ∀ q, j * 2 ≤ q → xs[q]? = (flatPt l)[q]?) (fun _ i _ => k - (intOf i).toNat)
      case atStart => exact ⟨0, flatPt l, Nat.zero_le _, rfl, hu3, HX.out, fun q _ => rfl⟩
      case round =>
        clear HX hu3
        obtain ⟨j, xs, hj, rfl, huq, hown, hxs⟩ := hrel
        by_cases hlt : j < k
        · obtain ⟨p, hp, hd⟩ := drop_at l j (by rw [HN.out]; exact hlt)
          clear hd
          obtain ⟨c0, c1⟩ := HC.out j p hp
          have c0 := huq.cell (hb.cell c0)
          have c1 := huq.cell (hb.cell c1)
          obtain ⟨f0, f1⟩ := flatPt_at l j p hp
          have x0 := (hown.cellAt (j * 2) (by omega)).trans ((hxs _ (Nat.le_refl _)).trans f0)
          have x1 := (hown.cellAt (j * 2 + 1) (by omega)).trans ((hxs _ (Nat.le_succ _)).trans f1)
          have y0 := hown.frozenAt (j * 2)
          have y1 := hown.frozenAt (j * 2 + 1)
          have HS := Lib.hid (And.intro hown hxs)
          clear hown hxs f0 f1 hp
          go_upto_region 16 with (fail)
          go_still (by kernel_rfl)
          go_wp2_with fail
          have hz3 : Up wb ((wr.setCell ⟨g3, j * 2, none⟩ (.int .i64 0)).setCell ⟨g3, j * 2 + 1, none⟩ (.int .i64 0)).drew :=
            (By.to_up huq (((By.refl wr g3).set (j * 2) (.int .i64 0)).set (j * 2 + 1) (.int .i64 0)) hg3).drew
          refine ⟨⟨j + 1, (xs.set (j * 2) (.int .i64 0)).set (j * 2 + 1) (.int .i64 0), hlt, rfl, hz3, (((HS.out.1.stored (j * 2) (.int .i64 0)).1.stored (j * 2 + 1) (.int .i64 0)).1).drew, fun q hq => ?_⟩, by simp [intOf]; omega⟩
          rw [List.getElem?_set_ne (by omega), List.getElem?_set_ne (by omega)]
          exact HS.out.2 q (by omega)
        · have e : j = k := by omega
          subst e
          clear hlt hown hxs hj
          have hAq := hAB.up huq
          have hGq := Lib.hid (fun i p hp => (hG.out i p hp (by have := (List.getElem?_eq_some_iff.1 hp).1; have := HN.out; omega)).up huq)
          have hRq := hR.up huq
          have hUq := hb.trans huq
          obtain ⟨p, hp, hd⟩ := drop_at l 0 (by rw [HN.out]; exact h0)
          clear hd
          obtain ⟨c0, c1⟩ := HC.out 0 p hp
          have c0 := hUq.cell c0
          have c1 := hUq.cell c1
          simp only [Nat.zero_mul, Nat.add_zero] at c0 c1
          obtain ⟨f0, f1⟩ := flatPt_at l 0 p hp
          simp only [Nat.zero_mul, Nat.zero_add] at f0 f1
          have k0 := hAq.cell 0
          have k1 := hAq.cell 1
          have k2 := hAq.cell 2
          have k3 := hAq.cell 3
          have k4 := hAq.cell 4
          have k5 := hAq.cell 5
          simp only [rowV, List.getElem?_toArray, List.getElem?_cons_zero, List.getElem?_cons_succ] at k0 k1 k2 k3 k4 k5
          clear hG hR hA hAB huq hb
          go_wp2_with fail
          refine (points_all l g j cap wr HN.out h60 hGq.out).mono ?_
          rintro e w5 ⟨x, rfl, hx, hu5⟩
          obtain ⟨g5, cap5, rfl, hg5, hg5'⟩ := hx.form h0
          have x0 := (hx.cellAt 0 (by omega)).trans f0
          have x1 := (hx.cellAt 1 (by omega)).trans f1
          have c0 := hu5.cell c0
          have c1 := hu5.cell c1
          have hA5 := hAq.up hu5
          have hG5 := Lib.hid (fun i p hp => (hGq.out i p hp).up hu5)
          have hR5 := hRq.up hu5
          have hU5 := hUq.trans hu5
          have h0i : (0 : Int) < (j : Nat) := by omega
          clear k0 k1 k2 k3 k4 k5 hx hGq hRq hUq hAq hu5 hp f0 f1
          go_wp2_with fail
          go_still (by kernel_rfl)
          have hm : ((a : Int) % (j : Int)) = ((a % j : Nat) : Int) := rfl
          have hmj : a % j < j := Nat.mod_lt _ h0
          generalize a % j = m at hm hmj
          go_upto_region 27 with (fail)
          rw [hm]
          clear hm x0 x1 c0 c1
          have hb3 : (b : Int) % 3 = 0 ∨ (b : Int) % 3 = 1 ∨ (b : Int) % 3 = 2 := by omega
          go_upto_region 29 with (fail)
          obtain ⟨p, hp, hd⟩ := drop_at l m (by rw [HN.out]; exact hmj)
          obtain ⟨i, hi'⟩ : ∃ i, is[m]? = some i := ⟨is[m]'(by omega), List.getElem?_eq_getElem (by omega)⟩
          obtain ⟨hAi, -, hiB⟩ := hR5.each m i p hi' hp
          have k4 := hA5.cell 4
          simp only [rowV, List.getElem?_toArray, List.getElem?_cons_zero, List.getElem?_cons_succ] at k4
          have hown := hR5.own
          rw [hlen] at hown
          have hflat := fun q (hq : q < 6) => (hown.cellAt (m * 6 + q) (by omega)).trans (flat_get encRow_len is m i q hi' hq)
          have r0 := hflat 0 (by omega)
          have r1 := hflat 1 (by omega)
          have r2 := hflat 2 (by omega)
          have r3 := hflat 3 (by omega)
          have r4 := hflat 4 (by omega)
          have r5 := hflat 5 (by omega)
          simp only [encRow, Nat.add_zero, List.getElem?_cons_zero, List.getElem?_cons_succ] at r0 r1 r2 r3 r4 r5
          have y0 := hown.frozenAt (m * 6)
          have y1 := hown.frozenAt (m * 6 + 1)
          have y2 := hown.frozenAt (m * 6 + 2)
          have y3 := hown.frozenAt (m * 6 + 3)
          have y4 := hown.frozenAt (m * 6 + 4)
          have y5 := hown.frozenAt (m * 6 + 5)
          have n6 := hAi.cell 6
          have n0 := hAi.cell 0
          have z6 := hAi.froz 6
          simp only [numV, List.append_toArray, List.cons_append, List.nil_append, List.getElem?_toArray, List.getElem?_cons_zero, List.getElem?_cons_succ] at n0 n6
          clear hflat
          have hgi := hR5.gi hi' hp
          have hgB : g ≠ B := by have := hown.lt g rfl; omega
          have hgw : B + 1 ≤ g := (hown.lt g rfl).1
          have hlm : (l.take m).length = m := by rw [List.length_take, HN.out]; omega
          have k0 := hA5.cell 0
          have k1 := hA5.cell 1
          have k2 := hA5.cell 2
          have k3 := hA5.cell 3
          have k5 := hA5.cell 5
          simp only [rowV, List.getElem?_toArray, List.getElem?_cons_zero, List.getElem?_cons_succ] at k0 k1 k2 k3 k5
          have hBi : B ≠ i := Nat.ne_of_lt hiB
          have hBg : B ≠ g := fun e => hgB e.symm
          rcases hb3 with h3 | h3 | h3 <;> rw [h3] <;> clear h3
          · go_upto_region 30 with (fail)
            have FR : ∀ wn, Up w5 wn → wn.cell? ⟨B, 4, none⟩ = some (.slice (some ⟨g, 0, none⟩) j cap) ∧ wn.cell? ⟨g, m * 6, none⟩ = some (.int .i64 4) ∧ wn.cell? ⟨g, m * 6 + 1, none⟩ = some (.bool false) ∧ wn.cell? ⟨g, m * 6 + 2, none⟩ = some (.int .i64 0) ∧ wn.cell? ⟨g, m * 6 + 3, none⟩ = some (.string ⟨#[]⟩) ∧ wn.cell? ⟨g, m * 6 + 4, none⟩ = some (.slice (some ⟨i, 0, none⟩) 2 2) ∧ wn.cell? ⟨g, m * 6 + 5, none⟩ = some (.slice none 0 0) ∧ wn.frozen? ⟨g, m * 6, none⟩ = false ∧ wn.frozen? ⟨g, m * 6 + 1, none⟩ = false ∧ wn.frozen? ⟨g, m * 6 + 2, none⟩ = false ∧ wn.frozen? ⟨g, m * 6 + 3, none⟩ = false ∧ wn.frozen? ⟨g, m * 6 + 4, none⟩ = false ∧ wn.frozen? ⟨g, m * 6 + 5, none⟩ = false := fun wn hU => by
              have hon := (hR5.up hU).own
              exact ⟨hU.cell k4, hU.cell r0, hU.cell r1, hU.cell r2, hU.cell r3, hU.cell r4, hU.cell r5, (hlen ▸ hon).frozenAt _, (hlen ▸ hon).frozenAt _, (hlen ▸ hon).frozenAt _, (hlen ▸ hon).frozenAt _, (hlen ▸ hon).frozenAt _, (hlen ▸ hon).frozenAt _⟩
            have hU : Up w5 w5.drew.drew := (Up.refl w5).drew.drew
            have HR := Lib.hid hR5
            have HA := Lib.hid hA5
            have HS1 := Lib.hid hs1
            have HH := Lib.hid (And.intro hi' (And.intro hp (And.intro hU5 (And.intro hgi hgw))))
            have HL := Lib.hid (And.intro hlen (And.intro hlm hmj))
            have hBg' : (some B : Option Nat) ≠ some g := by simpa using hBg
            have s0 : w5.drew.drew.cell? ⟨B, 4, none⟩ = some (.slice (some ⟨g, 0, none⟩) j cap) := k4
            have b0 : (0 : Int) ≤ (m : Int) := by omega
            have b1 : (m : Int) < (j : Int) := by omega
            clear hR5 hi' hp hU5 hgi hgw hlen hlm k0 k1 k2 k3 k4 k5 r0 r1 r2 r3 r4 r5 y0 y1 y2 y3 y4 y5 n6 n0 z6 hA5 hAi hown hiB hBi hgB hs1 hBg hv0 hBw hG5
            go_region_held3 (fun w' => w'.cell? ⟨B, 4, none⟩ = some (.slice (some ⟨g, 0, none⟩) j cap))
              (first
                | (with_reducible assumption)
                | (with_reducible exact ((((((((By.refl wn g).set _ _).set _ _).set _ _).set _ _).set _ _).set _ _).cell k4' hBg'))
                | fail)
              (first
                | (go_at_call 13; refine (num_any _ _).mono ?_; rintro e wn ⟨rfl, hu⟩; obtain ⟨k4', r0', r1', r2', r3', r4', r5', y0', y1', y2', y3', y4', y5'⟩ := FR wn (hU.trans hu))
                | fail)
            have hUn := hU.trans hu
            have hB6 : By wn _ g := ((((((By.refl wn g).set (m * 6) (.int .i64 2)).set (m * 6 + 1) (.bool false)).set (m * 6 + 2) (.int .i64 5)).set (m * 6 + 3) (.string ⟨#[]⟩)).set (m * 6 + 4) (.slice none 0 0)).set (m * 6 + 5) (.slice none 0 0)
            have hA6 := (HA.out.up hUn).grown hB6 hBg'
            obtain ⟨q1, q2⟩ := bad0 (HR.out.up hUn) HL.out.1 hmj HN.out HH.out.1 HH.out.2.1 rfl
            have hU6 : Up w _ := By.to_up (HH.out.2.2.1.trans hUn) hB6 (by have := HH.out.2.2.2.2; have := HS1.out; omega)
            clear k4' r0' r1' r2' r3' r4' r5' y0' y1' y2' y3' y4' y5' FR hB6 s0 hU hu hUn
            generalize hW6 : World.setCell _ _ _ = w6 at *
            clear hW6
            have k0 := hA6.cell 0
            have k1 := hA6.cell 1
            have k2 := hA6.cell 2
            have k3 := hA6.cell 3
            have k4 := hA6.cell 4
            have k5 := hA6.cell 5
            simp only [rowV, List.getElem?_toArray, List.getElem?_cons_zero, List.getElem?_cons_succ] at k0 k1 k2 k3 k4 k5
            go_wp2_with fail
            refine (points_not (l.take m) g m j cap _ HL.out.2.1 hmj h60 q1 q2).mono ?_
            rintro e w7 ⟨rfl, hu7⟩
            have hU7 : Up w w7 := hU6.trans hu7
            clear q1 q2
            go_wp2
            go_ret
            exact ⟨rfl, hU7⟩
          · go_upto_region 32 with (fail)
            have hRd := hR5.up (Up.refl w5).drew
            have hUd := hU5.drew
            have k4 : w5.drew.cell? ⟨B, 4, none⟩ = some (.slice (some ⟨g, 0, none⟩) j cap) := k4
            have r4 : w5.drew.cell? ⟨g, m * 6 + 4, none⟩ = some (.slice (some ⟨i, 0, none⟩) 2 2) := r4
            have y4 : w5.drew.frozen? ⟨g, m * 6 + 4, none⟩ = false := y4
            have k0 : w5.drew.cell? ⟨B, 0, none⟩ = some (.int .i64 4) := k0
            have k1 : w5.drew.cell? ⟨B, 1, none⟩ = some (.bool false) := k1
            have k2 : w5.drew.cell? ⟨B, 2, none⟩ = some (.int .i64 0) := k2
            have k3 : w5.drew.cell? ⟨B, 3, none⟩ = some (.string ⟨#[]⟩) := k3
            have k5 : w5.drew.cell? ⟨B, 5, none⟩ = some (.slice none 0 0) := k5
            generalize hWd : w5.drew = wd at *
            clear hWd r0 r1 r2 r3 r5 y0 y1 y2 y3 y5 n6 n0 z6
            go_still_tail 12, (by kernel_rfl)
            go_wp2_with fail
            obtain ⟨q1, q2⟩ := bad1 hRd hlen hmj HN.out hi' hp
            refine (points_not (l.take m) g m j cap (wd.setCell ⟨g, m * 6 + 4, none⟩ (.slice (some ⟨i, 0, none⟩) 1 2)).drew hlm hmj h60 q1 q2).mono ?_
            rintro e w7 ⟨rfl, hu7⟩
            have hU7 : Up w w7 := Up.trans (By.to_up hUd ((By.refl wd g).set (m * 6 + 4) (.slice (some ⟨i, 0, none⟩) 1 2)) (by omega)).drew hu7
            clear q1 q2
            go_wp2
            go_ret
            exact ⟨rfl, hU7⟩
          · go_upto_region 33 with (fail)
            go_wp2_with fail
            obtain ⟨q1, q2⟩ := bad2 hR5 hlen hmj HN.out hi' hp
            refine (points_not (l.take m) g m j cap (w5.setCell ⟨i, 6, none⟩ (.int .i64 3)).drew hlm hmj h60 q1 q2).mono ?_
            rintro e w7 ⟨rfl, hu7⟩
            have hU7 : Up w w7 := Up.trans (By.to_up hU5 ((By.refl w5 i).set 6 (.int .i64 3)) (by omega)).drew hu7
            clear q1 q2
            go_wp2
            go_ret
            exact ⟨rfl, hU7⟩
end Go.Proofs.Zd
