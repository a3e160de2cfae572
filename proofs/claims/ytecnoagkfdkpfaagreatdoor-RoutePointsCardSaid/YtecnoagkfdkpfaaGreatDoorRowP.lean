/- EVERY LIST OF POINTS: the law of RoutePoints answers true, and its arguments read as before. No condition but the listed tables of Go's library, tied by the card. -/
import Derived.Test.YtecnoagkfdkpfaaGreatDoorWorld0
import Derived.Test.YtecnoagkfdkpfaaGreatDoorPts4
import Derived.Deep.SlicePairs
import Derived.Carry
namespace Go.Proofs.YtecnoagkfdkpfaaGreatDoor
open Go.ChangeShapes Go.WideShapes Go.ChangeAt Go.RowKit Go.Deep
open Go.Proofs.Zd Go.Cat
theorem laidOutZ : laidOutB Tryz.prog = true := by kernel_rfl
/-- the arguments read as before in a world that has only grown -/
theorem trodAll_below {H : Type} {enc : TypeId × Value → H} {P : Program} {W W' : World} (hl : laidOutB P = true) (hb : Below W.heap.size W W') :
    ∀ {ts : List TypeId} {vs : List Value} {ds : List (DataW H)} {ps : List MemPlace}, (∀ t ∈ ts, P.readableRec t = true ∧ t < P.types.size) → (∀ x ∈ ps, x.block < W.heap.size) →
      DataW.TrodAll enc P W 0 (fun _ => true) true ts vs ds ps → DataW.TrodAll enc P W' 0 (fun b => decide (b < W.heap.size)) true ts vs ds ps
  | [], [], [], _, _, _, h => h
  | t :: ts, v :: vs, d :: ds, ps, hts, hlt, ⟨p, q, h0, h1, e⟩ => by
    subst e
    exact ⟨p, q, Below.trod hl (hts t (List.mem_cons_self ..)).1 (hts t (List.mem_cons_self ..)).2 h0 hb (fun x hx => hlt x (List.mem_append_left _ hx)),
      trodAll_below hl hb (fun t ht => hts t (List.mem_cons_of_mem _ ht)) (fun x hx => hlt x (List.mem_append_right _ hx)) h1, rfl⟩
  | [], _ :: _, _, _, _, _, h => h.elim
  | [], [], _ :: _, _, _, _, h => h.elim
  | _ :: _, [], _, _, _, _, h => h.elim
  | _ :: _, _ :: _, [], _, _, _, h => h.elim
theorem wf_u8 {n : Int} (h : (Lit.int .u8 n).wf = true) : ∃ k : Nat, k < 256 ∧ n = (k : Int) := by
  have hmin : IntKind.u8.min = 0 := rfl
  have hmax : IntKind.u8.max = 255 := rfl
  simp only [Lit.wf, Bool.and_eq_true, decide_eq_true_eq] at h
  exact ⟨n.toNat, by omega, by omega⟩
theorem cells33 : Tryz.prog.cellsOf 33 = 2 := by kernel_rfl
theorem cells2 : Tryz.prog.cellsOf 2 = 1 := by kernel_rfl
set_option maxRecDepth 100000 in
theorem points_called {H : Type} {enc : TypeId × Value → H} (W : World) (a0 : Option Addr) (len cap : Nat) (d0 : DataW H) (p0 : List MemPlace) (a b : Nat) (ha : a < 256) (hb : b < 256) (hE : Env W)
    (h0 : DataW.Trod enc Tryz.prog W 0 (fun _ => true) true 26 (.slice a0 len cap) d0 p0) :
    Calls Tryz.prog 4 #[.slice a0 len cap, .int .u8 a, .int .u8 b] W fun e W' => e = .returned (.bool true) ∧ Up W W' := by
  obtain ⟨n, t0⟩ := h0
  by_cases h60 : 60 < len
  · exact pts_long a0 len cap a b W h60 hE
  by_cases hz : len = 0
  · subst hz; exact pts_none a0 cap a b W hE
  rcases open_slice_pairs Tryz.underlying26 Tryz.underlying33 cells33 rfl rfl cells2 cells2 t0 with ⟨hc, hx⟩ | ⟨ad, len', cap', m, k, V0, V1, D0, D1, P0, P1, hc, _, hl, hm, hmm, hx, hall⟩
  · simp [Value.cells] at hc
    omega
  · simp only [Value.cells, List.cons.injEq, and_true, Value.slice.injEq] at hc
    obtain ⟨rfl, rfl, rfl⟩ := hc
    simp only [if_true] at hmm
    subst hmm
    obtain ⟨lb, lo, spot⟩ := ad
    have hspot : spot = none := by simpa [Addr.add] using World.cell?_spot (hall 0 (by omega)).1
    subst hspot
    have hint : ∀ i, i < m → ∃ x y, V0 i = .int .i64 x ∧ V1 i = .int .i64 y := fun i hi => by
      obtain ⟨x, h1, -, -⟩ := DataW.trod_int Tryz.underlying2 (hall i hi).2.2.1
      obtain ⟨y, h2, -, -⟩ := DataW.trod_int Tryz.underlying2 (hall i hi).2.2.2
      simp only [List.cons.injEq, and_true] at h1 h2
      exact ⟨x, y, h1, h2⟩
    have hex : ∀ i, ∃ q : Int × Int, i < m → V0 i = .int .i64 q.1 ∧ V1 i = .int .i64 q.2 := fun i => by
      by_cases hi : i < m
      · obtain ⟨x, y, h⟩ := hint i hi; exact ⟨(x, y), fun _ => h⟩
      · exact ⟨(0, 0), fun h => absurd h hi⟩
    refine pts_main ((List.range len).map fun i => (hex i).choose) lb lo len m a b W (by simp) (by omega) (by omega) ha hb (fun k p hp => ?_) hE
    rw [List.getElem?_map] at hp
    have hk : k < len := by
      rcases hr : (List.range len)[k]? with _ | y
      · rw [hr] at hp; cases hp
      · have := (List.getElem?_eq_some_iff.1 hr).1; simpa using this
    rw [List.getElem?_range hk] at hp
    cases hp
    obtain ⟨e1, e2⟩ := (hex k).choose_spec (by omega)
    obtain ⟨c0, c1, -⟩ := hall k (by omega)
    rw [e1] at c0
    rw [e2] at c1
    rw [add_plain] at c0 c1
    exact ⟨c0, c1⟩
set_option maxRecDepth 100000 in
theorem contractP (H : Type) (enc : TypeId × Value → H) (W : World) (base : Nat) (args : Array Value) (ds gs : List (DataW H)) (before : List MemPlace)
    (hval : ∀ (j : Nat) t v, Tryz.f4.params[j]? = some t → args[j]? = some v → Value.okWide Tryz.prog W .any base t v)
    (hW : DataW.Whole enc Tryz.prog Tryz.f4.params.toList Rows.routePointsSpec.vars false W args.toList ds gs before) (hE : Env W) :
    Calls Tryz.prog 4 args W fun e W' => ∃ v, e = .returned v ∧ Rows.routePointsSpec.post enc Tryz.prog Tryz.f4 false true false false W args v W' := by
  have hW' := hW
  have hlt : ∀ x ∈ before, x.block < W.heap.size := fun x hx => by simpa using hW.lt x hx
  obtain ⟨p, q, hA0, hV, rfl, hfz, hnd⟩ := hW
  have hA : DataW.TrodAll enc Tryz.prog W 0 (fun _ => true) true Tryz.f4.params.toList args.toList ds p := hA0
  obtain ⟨rfl, rfl⟩ := trodVars_none hV
  have hback := fun (W' : World) (hb : Below W.heap.size W W') => trodAll_below (enc := enc) laidOutZ hb (fun t ht => by rw [Tryz.params4] at ht; simp at ht; rcases ht with rfl | rfl | rfl <;> exact ⟨by kernel_rfl, of_decide_eq_true (by kernel_rfl)⟩) (fun x hx => hlt x (List.mem_append_left _ hx)) hA
  rw [Tryz.params4] at hA hval
  obtain ⟨v0, vs0, d0, ds0, p0, q0, hargs, rfl, rfl, h0, r0⟩ := trodAll_cons hA
  obtain ⟨v1, vs1, d1, ds1, p1, q1, rfl, rfl, rfl, h1, r1⟩ := trodAll_cons r0
  obtain ⟨v2, vs2, d2, ds2, p2, q2, rfl, rfl, rfl, h2, r2⟩ := trodAll_cons r1
  obtain ⟨rfl, rfl, rfl⟩ := trodAll_nil r2
  obtain rfl : args = #[v0, v1, v2] := by cases args; simp_all
  obtain ⟨a0, len, cap, rfl⟩ := okWide_slice Tryz.underlying26 (hval 0 26 v0 rfl rfl)
  obtain ⟨n1, rfl, rfl, rfl, w1⟩ := open_int Tryz.underlying5 (hval 1 5 v1 rfl rfl) h1
  obtain ⟨n2, rfl, rfl, rfl, w2⟩ := open_int Tryz.underlying5 (hval 2 5 v2 rfl rfl) h2
  obtain ⟨k1, hk1, rfl⟩ := wf_u8 w1
  obtain ⟨k2, hk2, rfl⟩ := wf_u8 w2
  clear hA0
  simp only [List.append_nil] at hW' hback
  refine (points_called W a0 len cap d0 p0 k1 k2 hk1 hk2 hE h0).mono fun e W' ⟨he, hg⟩ => ?_
  subst he
  exact ⟨_, rfl, _, _, _, [], p0, [], hW', trodAll_cons_mk (shut_bool Tryz.underlying4 _) trodAll_mk0, hback W' hg, rfl, Below.frame hg _, fun h => by cases h⟩
/-- A reading of the witness's arguments. -/
theorem readsP (os : Os) {H : Type} (enc : TypeId × Value → H) : ∃ places, DataW.whole enc Tryz.prog ((laidWorld os).forCall (fun _ _ => 0) ⟨#[], #[.slice none 0 0, .int .u8 0, .int .u8 0], []⟩).memory Tryz.f4.params.toList Rows.routePointsSpec.vars false #[Value.slice none 0 0, .int .u8 0, .int .u8 0].toList 8 = some ([.nil, .lit (.int .u8 0), .lit (.int .u8 0)], [], places) :=
  ⟨[], by kernel_rfl⟩
set_option maxRecDepth 100000 in
theorem liftedP (os : Os) (started : os.Started) (H : Type) (enc : TypeId × Value → H) (F : Stop.Interp) :
    ReturnsInHanded {} Tryz.checked os 4 .any ((OpenSpec.ofChange Rows.routePointsSpec).preRow enc Tryz.prog Tryz.f4 Rows.routePointsRow.domain false Rows.routePointsRow.laid) (((OpenSpec.ofChange Rows.routePointsSpec).at F).post enc Tryz.prog Tryz.f4 false true false false) := by
  obtain ⟨places, hx⟩ := readsP os enc
  refine returnsInHanded_of_row (C := Tryz.checked) (s := OpenSpec.ofChange Rows.routePointsSpec) own started (by kernel_rfl) Tryz.func4
    (witness_row_atRef (enc := enc) (C := Tryz.checked) false (laidWorld os) #[.slice none 0 0, .int .u8 0, .int .u8 0] rfl (by kernel_rfl) (by kernel_rfl) (by kernel_rfl)
      (OpenSpec.preRow_of_cond 8 hx (by kernel_rfl) (fun k hk => by cases hk) (by kernel_rfl) (laid_met os _))) ?_
  intro W base args ds gs before hval hW _ _ _ hL hsh _
  exact contractP H enc W base args ds gs before hval hW (env_of hL hsh)
theorem saidP : Rows.RoutePointsSaid :=
  OpenClaim.holds_of_cond 4 Tryz.f4 rfl rfl rfl rfl rfl rfl rfl ⟨rfl, rfl, rfl, rfl, rfl⟩ rfl rfl rfl rfl rfl (by kernel_rfl) Tryz.func4 (by kernel_rfl)
    (of_decide_eq_true (by kernel_rfl)) (by unfold Func.isWrapper; first | (rw [if_pos (by decide +kernel)]; kernel_rfl) | (rw [if_neg (by decide +kernel)]; exact ⟨rfl, rfl⟩))
    (fun os started H enc _ F => by rw [OpenClaim.pre_eq_preRow]; exact liftedP os started H enc F)
/-- No parameter wants a stand-in; the program's own looks: what the card asks. -/
theorem plainP (f : FuncId) (fn : Func) (hf : Tryz.pinned.checked.prog.funcNamed "catacomb/catacomblaw32.RoutePoints" = some f) (hfn : Tryz.pinned.checked.prog.funcs[f]? = some fn) :
    true = Tryz.pinned.checked.prog.looks [] ∧ ∀ (j : Nat) t, fn.params[j]? = some t → Tryz.pinned.checked.prog.wantsStandIn t = false := by
  obtain rfl : f = 4 := Option.some.inj ((show Tryz.prog.funcNamed "catacomb/catacomblaw32.RoutePoints" = some 4 by kernel_rfl).symm.trans hf) |>.symm
  obtain rfl : fn = Tryz.f4 := (Option.some.inj (Tryz.func4.symm.trans hfn)).symm
  refine ⟨by kernel_rfl, fun j t ht => ?_⟩
  rw [Tryz.params4] at ht
  have hm : t = 26 ∨ t = 5 := by
    have := Array.mem_of_getElem? ht
    simp at this
    exact this
  rcases hm with rfl | rfl
  · exact (show Tryz.prog.wantsStandIn 26 = false by kernel_rfl)
  · exact (show Tryz.prog.wantsStandIn 5 = false by kernel_rfl)
theorem routePoints_card : Rows.RoutePointsCardSaid :=
  Claim7.holds_tied_plain_at .later [] _ _ _ _ saidP (fun _ h => by cases h) (by kernel_rfl) (fun _ h => by cases h) routePoints_row_tie rfl ⟨rfl, rfl⟩ (by kernel_rfl) rfl plainP (by kernel_rfl)
#print axioms routePoints_card
end Go.Proofs.YtecnoagkfdkpfaaGreatDoor
