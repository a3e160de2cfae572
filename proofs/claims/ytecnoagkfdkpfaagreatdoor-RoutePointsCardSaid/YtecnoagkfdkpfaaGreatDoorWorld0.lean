/- A world for the witness: the one that the program's own initialisers leave, the two pinned tables laid in it; and what the listed variables give. -/
import Derived.Test.YtecnoagkfdkpfaaGreatDoorCards
import Derived.Test.YtecnoagkfdkpfaaGreatDoorTie
import Derived.ProofKit
import Derived.OpenShut
import Derived.Deep.DeepHandedRow
import Derived.Deep.DeepWitnessRowRef
import Derived.Deep.DeepLaidRun
import Derived.Lib.LaidTab
import Derived.LaidMore
import Derived.Stop.LaidErr
import Derived.Shelf.Vars
import Derived.PinnedBridge
import Derived.Lib.LaidCaseMet
import Derived.Test.YtecnoagkfdkpfaaGreatDoorEnv
namespace Go.Proofs.YtecnoagkfdkpfaaGreatDoor
open Go.ChangeShapes Go.WideShapes Go.ChangeAt Go.RowKit
/-- the cells of a plain datum -/
def flatAll : Nat → List (DataW Unit) → List Value
  | 0, _ => []
  | _ + 1, [] => []
  | n + 1, .lit (.int k x) :: r => .int k x :: flatAll n r
  | n + 1, .agg xs :: r => flatAll n (xs ++ r)
  | n + 1, .slice xs _ :: r => flatAll n (xs ++ r)
  | n + 1, _ :: r => flatAll n r
def firstCells : Array Value := (flatAll 300 [Go.Pinned.utf8First]).toArray
def setRow0 (cs : Array Value) : Obj → Obj
  | .cells _ t f => .cells cs t f
  | o => o
def row (d : DataW Unit) : Array Value := (flatAll 4000 [d]).toArray
noncomputable def laidHeap (h : Array Obj) : Array Obj :=
  (((((((((((h.modify 7 (setRow0 firstCells)).modify 4 (setRow0 #[.slice (some ⟨h.size, 0, none⟩) 336 336])).modify 3 (setRow0 (row Rows.laid_internal_strconv_uint64pow10))).modify 5 (setRow0 (row Rows.laid_math_bits_deBruijn32tab))).modify 6 (setRow0 (row Rows.laid_math_bits_deBruijn64tab))).modify 8 (setRow0 (row Rows.laid_unicode_utf8_acceptRanges))).modify 2 (setRow0 #[.iface 222 (.pointer (some ⟨h.size + 1, 0, none⟩))])).modify 1 (setRow0 #[.iface 222 (.pointer (some ⟨h.size + 2, 0, none⟩))])).push (.cells Lib.caseCells5 248)).push (.cells #[.string ⟨#[118, 97, 108, 117, 101, 32, 111, 117, 116, 32, 111, 102, 32, 114, 97, 110, 103, 101]⟩] 224)).push (.cells #[.string ⟨#[105, 110, 118, 97, 108, 105, 100, 32, 115, 121, 110, 116, 97, 120]⟩] 224))
noncomputable def laidWorld (os : Os) : World := { World.holding Tryz.prog os ⟨#[], #[], []⟩ with heap := laidHeap (World.holding Tryz.prog os ⟨#[], #[], []⟩).heap }
theorem LaidVars_swap {P : Program} {w : World} (x y : String × DataW Unit) : ∀ {l : List (String × DataW Unit)} {ps : List MemPlace}, DataW.LaidVars P w (l ++ [x, y]) ps → ∃ ps', DataW.LaidVars P w (l ++ [y, x]) ps' ∧ ps.Perm ps'
  | [], ps, h => by
    obtain ⟨g, t, cs, fuel, p, q, h1, h2, h3, h4, ⟨g', t', cs', fuel', p', q', k1, k2, k3, k4, k5, rfl⟩, rfl⟩ := h
    cases k5
    refine ⟨_, ⟨g', t', cs', fuel', p', _, k1, k2, k3, k4, ⟨g, t, cs, fuel, p, [], h1, h2, h3, h4, rfl, rfl⟩, rfl⟩, ?_⟩
    simp only [List.append_nil]
    exact List.perm_append_comm
  | (n, d) :: r, ps, h => by
    obtain ⟨g, t, cs, fuel, p, q, h1, h2, h3, h4, h5, rfl⟩ := h
    obtain ⟨q', hq, hp⟩ := LaidVars_swap x y h5
    exact ⟨_, ⟨g, t, cs, fuel, p, q', h1, h2, h3, h4, hq, rfl⟩, hp.append_left _⟩
theorem laidMet_swap {P : Program} {w : World} {l : List (String × DataW Unit)} {x y : String × DataW Unit} (h : laidMet P (l ++ [x, y]) w) : laidMet P (l ++ [y, x]) w := by
  obtain ⟨ps, h1, h2, h3⟩ := h
  obtain ⟨ps', k1, kp⟩ := LaidVars_swap x y h1
  exact ⟨ps', k1, kp.nodup_iff.1 h2, fun b off hm => h3 b off (kp.mem_iff.2 hm)⟩
/-- the variables but unicode.CaseRanges -/
def others : List (String × DataW Unit) := [("math/bits.deBruijn32tab", Rows.laid_math_bits_deBruijn32tab), ("math/bits.deBruijn64tab", Rows.laid_math_bits_deBruijn64tab), ("internal/strconv.uint64pow10", Rows.laid_internal_strconv_uint64pow10), ("unicode/utf8.acceptRanges", Rows.laid_unicode_utf8_acceptRanges), ("strconv.ErrRange", Rows.laid_strconv_ErrRange), ("strconv.ErrSyntax", Rows.laid_strconv_ErrSyntax)]
set_option maxRecDepth 100000 in
theorem laid_met (os : Os) (args : Array Value) : laidMet Tryz.prog Rows.routeNumbersRow.laid ((laidWorld os).forCall (fun _ _ => 0) ⟨#[], args, []⟩).memory := by
  have h : laidMet Tryz.prog ((others ++ [("unicode/utf8.first", Rows.laid_unicode_utf8_first)]) ++ [("unicode.CaseRanges", Lib.caseData)]) ((laidWorld os).forCall (fun _ _ => 0) ⟨#[], args, []⟩).memory :=
    laidMet_with_case (ρ := Tryz.lays203_ren) { Tryz.lays203 with } Tryz.lays203.t206 ⟨by kernel_rfl, by kernel_rfl, by kernel_rfl, by kernel_rfl, by kernel_rfl, by kernel_rfl⟩
      10 (by kernel_rfl) (by kernel_rfl) (by kernel_rfl) (World.holding Tryz.prog default ⟨#[], #[], []⟩).heap.size 248 (of_decide_eq_true (by kernel_rfl)) (by kernel_rfl) (by kernel_rfl) (by kernel_rfl)
  rw [List.append_assoc] at h
  have h2 := laidMet_swap h
  rw [← Pinned.caseRanges_eq] at h2
  exact h2
open Go.Proofs.Zd
theorem own : ownKnob Tryz.prog.godebug = none := by kernel_rfl
theorem gMax : (Tryz.prog.globals[0]?).map (·.type) = some 3 := by kernel_rfl
theorem gSyn : Tryz.prog.globalNamed "strconv.ErrSyntax" = some 1 := by kernel_rfl
theorem gSynType : (Tryz.prog.globals[1]?).map (·.type) = some 83 := by kernel_rfl
theorem gRng : Tryz.prog.globalNamed "strconv.ErrRange" = some 2 := by kernel_rfl
theorem gRngType : (Tryz.prog.globals[2]?).map (·.type) = some 83 := by kernel_rfl
theorem gTabType : (Tryz.prog.globals[3]?).map (·.type) = some 202 := by kernel_rfl
theorem gAcc : Tryz.prog.globalNamed "unicode/utf8.acceptRanges" = some 8 := by kernel_rfl
theorem cells202 : Tryz.prog.cellsOf 202 = 20 := by kernel_rfl
theorem cells87 : Tryz.prog.cellsOf 87 = 1 := by kernel_rfl
theorem cells224 : Tryz.prog.cellsOf 224 = 1 := by kernel_rfl
theorem cells9 : Tryz.prog.cellsOf 9 = 1 := by kernel_rfl
theorem star : "*" ++ "errors.errorString" = "*errors.errorString" := by decide
theorem row222 (u : TypeId) (h : Tryz.prog.typeName? 3 u = some "*errors.errorString") : u = 222 :=
  typeName_ptr_named (nm := "errors.errorString") (by rw [star]; kernel_rfl) (by kernel_rfl) (by decide) u (by rw [star]; exact h)
/-- WHAT THE CONDITION AND THE WORLD's SHAPE GIVE THE WALKS. -/
theorem env_of {W : World} (hL : laidMet Tryz.prog Rows.routeNumbersRow.laid W) (hsh : W.ShapedOpen Tryz.prog) : Env W := by
  have h2 := hL.tail.tail
  have ht : Lib.TabIs Tryz.prog W "internal/strconv.uint64pow10" .u64 Lib.pow10Tab := Lib.tabIs_of_head gTab gTabType Tryz.underlying202 Tryz.underlying87 cells87 cells202 h2
  have h4 := h2.tail.tail
  obtain ⟨a1, s1, hv1, -⟩ := laid_sentinel h4 gRng gRngType Tryz.underlying83 row222 Tryz.underlying222 Tryz.underlying224 rfl rfl Tryz.underlying9 cells224 cells9
  obtain ⟨a2, s2, hv2, -⟩ := laid_sentinel h4.tail gSyn gSynType Tryz.underlying83 row222 Tryz.underlying222 Tryz.underlying224 rfl rfl Tryz.underlying9 cells224 cells9
  have hm := Go.Proofs.cell_of_shapedOpen_int (k := .i64) (t := 3) (zero := #[.int .i64 0]) hsh (g := 0) (of_decide_eq_true (by kernel_rfl)) (by kernel_rfl) rfl (by kernel_rfl) (by kernel_rfl) Tryz.underlying3
  have e1 := World.var?_cell gSyn hv2 0
  have e2 := World.var?_cell gRng hv1 0
  simp only [List.getElem?_toArray, List.getElem?_cons_zero] at e1 e2
  refine ⟨?_, hm, ⟨222, .pointer (some a2), e1⟩, ⟨222, .pointer (some a1), e2⟩, ht⟩
  obtain ⟨ps, ⟨g', t', cs, fuel, p, q, hg', ht', hvar, -⟩, -⟩ := h2.tail
  obtain rfl := Option.some.inj (gAcc.symm.trans hg')
  exact lt_of_var gAcc hvar
end Go.Proofs.YtecnoagkfdkpfaaGreatDoor
