/- The table of rounds lies as the program's text lays it: what the condition of a row that lists it gives, and a world that meets it. -/
import Derived.Test.YtkgpeddncpdjjaaDoorCkA
import Derived.Test.YtkgpeddncpdjjaaDoorRow
import Derived.ChangeSame
import Derived.ChangeArms
import Derived.ChangeVars
import Derived.OpenShut
import Derived.JoinedOf
import Derived.RowKit
import Derived.RowKitTokens
import Derived.LaidLaws
import Derived.Deep.DeepLaidRun
namespace Go.Proofs.YtkgpeddncpdjjaaDoor
open Go.ChangeShapes Go.WideShapes Go.ChangeAt Go.RowKit Go.Joins
set_option linter.unusedSimpArgs false
set_option linter.unusedVariables false
set_option maxRecDepth 100000
abbrev laidR : List (String × DataW Unit) := [("timesync/prng.rounds", Rows.laid_timesync_prng_rounds)]
theorem rg_glob : Tryd.prog.globalNamed "timesync/prng.rounds" = some 0 := by kernel_rfl
theorem rg_type : (Tryd.prog.globals[0]?).map (·.type) = some 76 := by kernel_rfl
theorem cellsRnds : Tryd.prog.cellsOf 76 = 6 := by kernel_rfl
theorem cellsRnd : Tryd.prog.cellsOf 75 = 2 := by kernel_rfl
theorem cellsU : Tryd.prog.cellsOf 73 = 1 := by kernel_rfl
theorem cellsU64r : Tryd.prog.cellsOf 22 = 1 := by kernel_rfl
section
variable {H : Type} {enc : TypeId × Value → H} {w : World} {base : Nat} {spare : Nat → Bool} {held : Bool}
theorem round_cells {fuel : Nat} {cs : List Value} {x : DataW H × List MemPlace} (h : DataW.trod enc Tryd.prog w base spare held fuel 75 cs = some x) : ∃ a b : Int, cs = [.int .u64 a, .int .u64 b] ∧ x.1 = .agg [.lit (.int .u64 a), .lit (.int .u64 b)] := by
  obtain ⟨y0, y1, n, rfl, hl, h0, h1⟩ := trod_struct2 Tryd.underlying75 h
  rw [cellsRnd] at hl
  match cs, hl with
  | [c0, c1], _ =>
    obtain ⟨a, e0, rfl, _⟩ := DataW.trod_int Tryd.underlying73 h0
    obtain ⟨b, e1, rfl, _⟩ := DataW.trod_int Tryd.underlying22 h1
    simp [cellsU, cellsU64r] at e0 e1
    subst e0 e1
    exact ⟨a, b, rfl, rfl⟩
theorem rounds_cells {fuel : Nat} {cs : List Value} {p : List MemPlace} (h : DataW.trod enc Tryd.prog w base spare held fuel 76 cs = some (Rows.laid_timesync_prng_rounds, p)) : cs = [.int .u64 30, .int .u64 13787848793156543929, .int .u64 27, .int .u64 10723151780598845931, .int .u64 31, .int .u64 1] := by
  obtain ⟨xs, m, _, hx, hl, hxl, hf⟩ := DataW.trod_array Tryd.underlying76 h
  rw [cellsRnds] at hl
  match cs, hl, xs, hxl with
  | [c0, c1, c2, c3, c4, c5], _, [y0, y1, y2], _ =>
    have h0 := hf 0 (by omega)
    have h1 := hf 1 (by omega)
    have h2 := hf 2 (by omega)
    simp only [cellsRnd, Nat.zero_mul, Nat.one_mul, List.drop_zero, List.drop_succ_cons, List.take_succ_cons, List.take_zero, List.getElem?_cons_zero, List.getElem?_cons_succ, show (2 : Nat) * 2 = 4 from rfl] at h0 h1 h2
    obtain ⟨a0, b0, e0, f0⟩ := round_cells h0
    obtain ⟨a1, b1, e1, f1⟩ := round_cells h1
    obtain ⟨a2, b2, e2, f2⟩ := round_cells h2
    have hx1 := congrArg Prod.fst hx
    simp only [List.map_cons, List.map_nil, f0, f1, f2, Rows.laid_timesync_prng_rounds] at hx1
    simp at hx1 e0 e1 e2
    obtain ⟨⟨rfl, rfl⟩, ⟨rfl, rfl⟩, rfl, rfl⟩ := hx1
    obtain ⟨rfl, rfl⟩ := e0
    obtain ⟨rfl, rfl⟩ := e1
    obtain ⟨rfl, rfl⟩ := e2
    rfl
end
theorem rnd_of_laid {W : World} (h : laidMet Tryd.prog laidR W) : Rnd W := by
  obtain ⟨ps, ⟨g, t, cs, fuel, p, q, hg, ht, hvar, hd, _, hps⟩, _, hz⟩ := h
  obtain rfl := Option.some.inj (rg_glob.symm.trans hg)
  obtain rfl := Option.some.inj (rg_type.symm.trans ht)
  have hc := rounds_cells hd
  have hmem : MemPlace.cell 0 0 ∈ ps := by
    rw [hps]
    refine List.mem_append_left _ (List.mem_append_left _ ?_)
    have hs : cs.size = 6 := by rw [← Array.length_toList, hc]; rfl
    rw [hs]
    decide
  obtain ⟨⟨c, t, hh⟩, _⟩ := hz 0 0 hmem
  unfold World.var? at hvar
  rw [rg_glob] at hvar
  simp only [Option.bind_some, hh, Option.some.injEq] at hvar
  subst hvar
  refine ⟨t, ?_⟩
  unfold Blk
  rw [hh]
  congr 2
  apply Array.toList_inj.1
  rw [hc]
/-- a world that meets the condition -/
noncomputable def laidWorld (os : Os) : World :=
  { World.holding Tryd.prog os ⟨#[], #[], []⟩ with heap := (World.holding Tryd.prog os ⟨#[], #[], []⟩).heap.modify 0 fun
      | .cells _ t frozen => .cells #[.int .u64 30, .int .u64 13787848793156543929, .int .u64 27, .int .u64 10723151780598845931, .int .u64 31, .int .u64 1] t frozen
      | o => o }
theorem laidWorld_met (os : Os) (args : Array Value) : laidMet Tryd.prog laidR ((laidWorld os).forCall (fun _ _ => 0) ⟨#[], args, []⟩).memory :=
  laidMet_of_run3 8 (by kernel_rfl) (by kernel_rfl) (by kernel_rfl)
end Go.Proofs.YtkgpeddncpdjjaaDoor
