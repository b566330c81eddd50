/- How a law's statement follows from its walk: the reading of the arguments stands behind the call as before, where the call has made new blocks only. The table of rounds lies as the program's text lays it: what the condition of a row that lists it gives, and a world that meets it. The type of headers: its size, its zero; small laws on memory for regions that draw their order. Structs by value, opened field by field, whatever their fields; a header opened. Slices of structs that came in: each element's cells; the laws of load where a range of cells is known. No function of the program occurs here. A byte slice that came in, opened: what its cells hold, its bounds. Lists of extension fields in memory; a list that came in, opened. What the functions of package wire that read numbers compute, and those of its reference. -/
import Derived.Test.YtachhbbofemfdaaDoorGXz1
import Derived.ShutString
import Derived.Lib.SmallJoins
import Derived.Carry
import Derived.ChangeSame
import Derived.ChangeArms
import Derived.ChangeVars
import Derived.OpenShut
import Derived.JoinedOf
import Derived.RowKit
import Derived.RowKitTokens
import Derived.LaidLaws
import Derived.Deep.DeepLaidRun
import Derived.Deep.Fields
import Derived.Deep.Slices
import Derived.SizedLaws
namespace Go.Proofs.YtachhbbofemfdaaDoor
open Go.ChangeShapes Go.WideShapes Go.ChangeAt Go.RowKit Go.Joins
set_option linter.unusedSimpArgs false
set_option linter.unusedVariables false
set_option maxRecDepth 100000
theorem own : ownKnob Tryd.prog.godebug = none := by kernel_rfl
theorem laidOut : laidOutB Tryd.prog = true := by kernel_rfl
section
variable {H : Type} {enc : TypeId × Value → H} {P : Program}
theorem below_trodAll (hl : laidOutB P = true) {W W' : World} (hb : Below W.heap.size W W') (sp : Nat → Bool) : ∀ (ts : List TypeId) (vs : List Value) (ds : List (DataW H)) (ps : List MemPlace),
    (∀ t ∈ ts, P.readableRec t = true ∧ t < P.types.size) → DataW.TrodAll enc P W 0 (fun _ => true) true ts vs ds ps → (∀ x ∈ ps, x.block < W.heap.size) → (∀ x ∈ ps, sp x.block = true) → DataW.TrodAll enc P W' 0 sp true ts vs ds ps
  | [], vs, ds, ps, _, h, _, _ => by
      obtain ⟨rfl, rfl, rfl⟩ := trodAll_nil h
      exact trodAll_mk0
  | t :: ts, vs, ds, ps, hr, h, hlt, hsp => by
      obtain ⟨v, vs', d, ds', p, q, rfl, rfl, rfl, h0, r0⟩ := trodAll_cons h
      obtain ⟨hr1, hr2⟩ := hr t (by simp)
      exact trodAll_cons_mk (WideElems.Trod_stays hl hr1 hr2 h0 (fun x hx => hb.same (hlt x (by simp [hx]))) (fun x hx => hsp x (by simp [hx])))
        (below_trodAll hl hb sp ts vs' ds' q (fun t ht => hr t (by simp [ht])) r0 (fun x hx => hlt x (by simp [hx])) (fun x hx => hsp x (by simp [hx])))
/-- The post of a law: it returned true; of what was there nothing has turned. -/
theorem law_post {f : Func} {s : ChangeSpec} {apart fresh handsOn again : Bool} {W W' : World} {args : Array Value} {ds : List (DataW H)} {before : List MemPlace} {tb : TypeId} (hl : laidOutB P = true) (hbool : P.underlying tb = some .bool)
    (hrt : f.resultTypes = #[tb]) (hpar : ∀ t ∈ f.params.toList, P.readableRec t = true ∧ t < P.types.size) (hvars : s.vars = [])
    (h1 : (s.fn H ds).results = [.lit (.bool true)]) (h2 : (s.fn H ds).args = ds) (h3 : (s.fn H ds).vars = [])
    (hW : DataW.Whole enc P f.params.toList s.vars apart W args.toList ds [] before) (hb : Below W.heap.size W W') : s.post enc P f apart fresh handsOn again W args (.bool true) W' := by
  have hlt : ∀ x ∈ before, x.block < W.heap.size := fun x hx => hW.lt x hx
  have hW' := hW
  obtain ⟨p, q, hA, hV, hp, hz, hn⟩ := hW'
  rw [hvars] at hV
  obtain ⟨_, hq⟩ := trodVars_none hV
  rw [hq, List.append_nil] at hp
  have args' : ∀ sp : Nat → Bool, (∀ x ∈ before, sp x.block = true) → DataW.TrodAll enc P W' 0 sp true f.params.toList args.toList ds before := fun sp hsp => by
    rw [hp] at hlt hsp ⊢
    exact below_trodAll hl hb sp _ _ _ _ hpar hA hlt hsp
  have res' : ∀ (b : Nat) (sp : Nat → Bool) (hd : Bool), DataW.TrodAll enc P W' b sp hd f.resultTypes.toList ((Value.bool true).resultList f.resultTypes.size) [.lit (.bool true)] [] := fun b sp hd => by
    rw [hrt]
    exact trodAll_mk1 (shut_bool hbool true)
  have vars' : ∀ sp : Nat → Bool, DataW.TrodVars enc P W' sp s.vars [] [] := fun sp => by rw [hvars]; rfl
  have e0 : ds ++ [] = ds := List.append_nil ds
  refine ⟨ds, [], before, [], before, [], hW, ?_, ?_, ?_, ?_, ?_⟩
  · rw [e0, h1]; exact res' _ _ _
  · rw [e0, h2]; exact args' _ (fun x hx => by simpa using hlt x hx)
  · rw [e0, h3]; exact vars' _
  · exact World.keptBut_mono (fun x hx => ⟨hx, Or.inr (Or.inl hx)⟩) (hb.frame (· ∈ before))
  · intro _
    refine ⟨?_, [.lit (.bool true)] ++ ds, [], before, ⟨before, [], ?_, vars' _, by simp, ?_, fun ha => hn ha⟩, fun x hx _ => hx⟩
    · exact ok_one hrt rfl (okWide_bool_mk hbool true)
    · exact trodAll_append (args' (fun _ => true) (fun _ _ => rfl)) (res' _ _ _)
    · intro b off hx
      rw [hb.frozen (hlt _ hx)]
      exact hz b off hx
end
end Go.Proofs.YtachhbbofemfdaaDoor
namespace Go.Proofs.YtachhbbofemfdaaDoor
open Go.ChangeShapes Go.WideShapes Go.ChangeAt Go.RowKit Go.Joins
set_option linter.unusedSimpArgs false
set_option linter.unusedVariables false
set_option maxRecDepth 100000
abbrev laidR : List (String × DataW Unit) := [("timesync/prng.rounds", Rows.laid_timesync_prng_rounds)]
theorem rg_glob : Tryd.prog.globalNamed "timesync/prng.rounds" = some 0 := by kernel_rfl
theorem rg_type : (Tryd.prog.globals[0]?).map (·.type) = some 147 := by kernel_rfl
theorem cellsRnds : Tryd.prog.cellsOf 147 = 6 := by kernel_rfl
theorem cellsRnd : Tryd.prog.cellsOf 146 = 2 := by kernel_rfl
theorem cellsU : Tryd.prog.cellsOf 110 = 1 := by kernel_rfl
theorem cellsU64r : Tryd.prog.cellsOf 22 = 1 := by kernel_rfl
section
variable {H : Type} {enc : TypeId × Value → H} {w : World} {base : Nat} {spare : Nat → Bool} {held : Bool}
theorem round_cells {fuel : Nat} {cs : List Value} {x : DataW H × List MemPlace} (h : DataW.trod enc Tryd.prog w base spare held fuel 146 cs = some x) : ∃ a b : Int, cs = [.int .u64 a, .int .u64 b] ∧ x.1 = .agg [.lit (.int .u64 a), .lit (.int .u64 b)] := by
  obtain ⟨y0, y1, n, rfl, hl, h0, h1⟩ := trod_struct2 Tryd.underlying146 h
  rw [cellsRnd] at hl
  match cs, hl with
  | [c0, c1], _ =>
    obtain ⟨a, e0, rfl, _⟩ := DataW.trod_int Tryd.underlying110 h0
    obtain ⟨b, e1, rfl, _⟩ := DataW.trod_int Tryd.underlying22 h1
    simp [cellsU, cellsU64r] at e0 e1
    subst e0 e1
    exact ⟨a, b, rfl, rfl⟩
theorem rounds_cells {fuel : Nat} {cs : List Value} {p : List MemPlace} (h : DataW.trod enc Tryd.prog w base spare held fuel 147 cs = some (Rows.laid_timesync_prng_rounds, p)) : cs = [.int .u64 30, .int .u64 13787848793156543929, .int .u64 27, .int .u64 10723151780598845931, .int .u64 31, .int .u64 1] := by
  obtain ⟨xs, m, _, hx, hl, hxl, hf⟩ := DataW.trod_array Tryd.underlying147 h
  rw [cellsRnds] at hl
  match cs, hl, xs, hxl with
  | [c0, c1, c2, c3, c4, c5], _, [y0, y1, y2], _ =>
    have h0 := hf 0 (by omega)
    have h1 := hf 1 (by omega)
    have h2 := hf 2 (by omega)
    simp only [cellsRnd, Nat.zero_mul, Nat.one_mul, List.drop_zero, List.drop_succ_cons, List.take_succ_cons, List.take_zero, List.getElem?_cons_zero, List.getElem?_cons_succ, show (2 : Nat) * 2 = 4 from rfl] at h0 h1 h2
    obtain ⟨a0, b0, e0, f0⟩ := round_cells h0
    obtain ⟨a1, b1, e1, f1⟩ := round_cells h1
    obtain ⟨a2, b2, e2, f2⟩ := round_cells h2
    have hx1 := congrArg Prod.fst hx
    simp only [List.map_cons, List.map_nil, f0, f1, f2, Rows.laid_timesync_prng_rounds] at hx1
    simp at hx1 e0 e1 e2
    obtain ⟨⟨rfl, rfl⟩, ⟨rfl, rfl⟩, rfl, rfl⟩ := hx1
    obtain ⟨rfl, rfl⟩ := e0
    obtain ⟨rfl, rfl⟩ := e1
    obtain ⟨rfl, rfl⟩ := e2
    rfl
end
theorem rnd_of_laid {W : World} (h : laidMet Tryd.prog laidR W) : Rnd W := by
  obtain ⟨ps, ⟨g, t, cs, fuel, p, q, hg, ht, hvar, hd, _, hps⟩, _, hz⟩ := h
  obtain rfl := Option.some.inj (rg_glob.symm.trans hg)
  obtain rfl := Option.some.inj (rg_type.symm.trans ht)
  have hc := rounds_cells hd
  have hmem : MemPlace.cell 0 0 ∈ ps := by
    rw [hps]
    refine List.mem_append_left _ (List.mem_append_left _ ?_)
    have hs : cs.size = 6 := by rw [← Array.length_toList, hc]; rfl
    rw [hs]
    decide
  obtain ⟨⟨c, t, hh⟩, _⟩ := hz 0 0 hmem
  unfold World.var? at hvar
  rw [rg_glob] at hvar
  simp only [Option.bind_some, hh, Option.some.injEq] at hvar
  subst hvar
  refine ⟨t, ?_⟩
  unfold Blk
  rw [hh]
  congr 2
  apply Array.toList_inj.1
  rw [hc]
/-- a world that meets the condition -/
noncomputable def laidWorld (os : Os) : World :=
  { World.holding Tryd.prog os ⟨#[], #[], []⟩ with heap := (World.holding Tryd.prog os ⟨#[], #[], []⟩).heap.modify 0 fun
      | .cells _ t frozen => .cells #[.int .u64 30, .int .u64 13787848793156543929, .int .u64 27, .int .u64 10723151780598845931, .int .u64 31, .int .u64 1] t frozen
      | o => o }
theorem laidWorld_met (os : Os) (args : Array Value) : laidMet Tryd.prog laidR ((laidWorld os).forCall (fun _ _ => 0) ⟨#[], args, []⟩).memory :=
  laidMet_of_run3 8 (by kernel_rfl) (by kernel_rfl) (by kernel_rfl)
end Go.Proofs.YtachhbbofemfdaaDoor
namespace Go.Proofs.YtachhbbofemfdaaDoor
open Go.RowKit
set_option linter.unusedSimpArgs false
set_option linter.unusedVariables false
set_option maxRecDepth 100000
abbrev zN : List Value := [.int .i64 0, .int .i64 0, .int .i64 0, .int .i64 0, .int .i64 0, .int .i64 0, .int .u32 0, .int .u32 0, .int .u32 0, .int .u64 0, .int .u64 0, .int .u64 0, .int .u64 0]
theorem zeroNtp : (Tryd.prog.info? 27).map (·.zero) = some (some (.agg zN.toArray)) := by kernel_rfl
abbrev ntp0 : Value := .agg zN.toArray
theorem sizeNtp : (Tryd.prog.info? 27).map (·.size) = some 13 := by kernel_rfl
end Go.Proofs.YtachhbbofemfdaaDoor
namespace Go.Proofs.YtachhbbofemfdaaDoor
open Go.ChangeShapes Go.WideShapes Go.ChangeAt Go.RowKit Go.Joins Go.Deep
set_option linter.unusedSimpArgs false
set_option linter.unusedVariables false
set_option maxRecDepth 100000
section
variable {H : Type} {enc : TypeId × Value → H} {P : Program} {w : World} {base : Nat} {spare : Nat → Bool} {held : Bool}
theorem trod_fields {t : TypeId} {fs : Array Field} {fuel : Nat} {cs : List Value} {x : DataW H × List MemPlace} (ht : P.underlying t = some (.struct fs)) (h : DataW.trod enc P w base spare held fuel t cs = some x) :
    cs.length = P.cellsOf t ∧ ∀ (i : Nat) (f : Field), fs[i]? = some f → ∃ y n, DataW.trod enc P w base spare held n f.type ((cs.drop f.offset).take (P.cellsOf f.type)) = some y := by
  obtain ⟨xs, n, _, _, hl, hxl, hg⟩ := DataW.trod_struct ht h
  refine ⟨hl, fun i f hf => ?_⟩
  have hi : i < xs.length := by rw [hxl]; exact (Array.getElem?_eq_some_iff.1 hf).1
  exact ⟨xs[i], n, (hg i f hf).trans (List.getElem?_eq_getElem hi)⟩
end
theorem cellsNtp : Tryd.prog.cellsOf 27 = 13 := by kernel_rfl
set_option maxRecDepth 100000 in
theorem ntp_cells {H : Type} {enc : TypeId × Value → H} {w : World} {base : Nat} {spare : Nat → Bool} {held : Bool} {fuel : Nat} {cs : List Value} {x : DataW H × List MemPlace} (h : DataW.trod enc Tryd.prog w base spare held fuel 27 cs = some x) :
    ∃ l v m st po pr rd rp id ref org rec xmt : Int, cs = [.int .i64 l, .int .i64 v, .int .i64 m, .int .i64 st, .int .i64 po, .int .i64 pr, .int .u32 rd, .int .u32 rp, .int .u32 id, .int .u64 ref, .int .u64 org, .int .u64 rec, .int .u64 xmt] ∧ (-9223372036854775808 ≤ l ∧ l ≤ 9223372036854775807) ∧ (-9223372036854775808 ≤ v ∧ v ≤ 9223372036854775807) ∧ (-9223372036854775808 ≤ m ∧ m ≤ 9223372036854775807) ∧ (-9223372036854775808 ≤ st ∧ st ≤ 9223372036854775807) ∧ (-9223372036854775808 ≤ po ∧ po ≤ 9223372036854775807) ∧ (-9223372036854775808 ≤ pr ∧ pr ≤ 9223372036854775807) ∧ (0 ≤ rd ∧ rd ≤ 4294967295) ∧ (0 ≤ rp ∧ rp ≤ 4294967295) ∧ (0 ≤ id ∧ id ≤ 4294967295) ∧ (0 ≤ ref ∧ ref ≤ 18446744073709551615) ∧ (0 ≤ org ∧ org ≤ 18446744073709551615) ∧ (0 ≤ rec ∧ rec ≤ 18446744073709551615) ∧ (0 ≤ xmt ∧ xmt ≤ 18446744073709551615) := by
  obtain ⟨hl, hf⟩ := trod_fields Tryd.underlying27 h
  rw [cellsNtp] at hl
  match cs, hl with
  | [c0, c1, c2, c3, c4, c5, c6, c7, c8, c9, c10, c11, c12], _ =>
    obtain ⟨y0, n0, h0⟩ := hf 0 _ rfl
    obtain ⟨l, e0, _, wf0⟩ := DataW.trod_int Tryd.underlying3 h0
    obtain ⟨y1, n1, h1⟩ := hf 1 _ rfl
    obtain ⟨v, e1, _, wf1⟩ := DataW.trod_int Tryd.underlying3 h1
    obtain ⟨y2, n2, h2⟩ := hf 2 _ rfl
    obtain ⟨m, e2, _, wf2⟩ := DataW.trod_int Tryd.underlying3 h2
    obtain ⟨y3, n3, h3⟩ := hf 3 _ rfl
    obtain ⟨st, e3, _, wf3⟩ := DataW.trod_int Tryd.underlying3 h3
    obtain ⟨y4, n4, h4⟩ := hf 4 _ rfl
    obtain ⟨po, e4, _, wf4⟩ := DataW.trod_int Tryd.underlying3 h4
    obtain ⟨y5, n5, h5⟩ := hf 5 _ rfl
    obtain ⟨pr, e5, _, wf5⟩ := DataW.trod_int Tryd.underlying3 h5
    obtain ⟨y6, n6, h6⟩ := hf 6 _ rfl
    obtain ⟨rd, e6, _, wf6⟩ := DataW.trod_int Tryd.underlying25 h6
    obtain ⟨y7, n7, h7⟩ := hf 7 _ rfl
    obtain ⟨rp, e7, _, wf7⟩ := DataW.trod_int Tryd.underlying25 h7
    obtain ⟨y8, n8, h8⟩ := hf 8 _ rfl
    obtain ⟨id, e8, _, wf8⟩ := DataW.trod_int Tryd.underlying25 h8
    obtain ⟨y9, n9, h9⟩ := hf 9 _ rfl
    obtain ⟨ref, e9, _, wf9⟩ := DataW.trod_int Tryd.underlying22 h9
    obtain ⟨y10, n10, h10⟩ := hf 10 _ rfl
    obtain ⟨org, e10, _, wf10⟩ := DataW.trod_int Tryd.underlying22 h10
    obtain ⟨y11, n11, h11⟩ := hf 11 _ rfl
    obtain ⟨rec, e11, _, wf11⟩ := DataW.trod_int Tryd.underlying22 h11
    obtain ⟨y12, n12, h12⟩ := hf 12 _ rfl
    obtain ⟨xmt, e12, _, wf12⟩ := DataW.trod_int Tryd.underlying22 h12
    have k1 : Tryd.prog.cellsOf 3 = 1 := by kernel_rfl
    have k2 : Tryd.prog.cellsOf 25 = 1 := by kernel_rfl
    have k3 : Tryd.prog.cellsOf 22 = 1 := by kernel_rfl
    simp [k1, k2, k3] at e0 e1 e2 e3 e4 e5 e6 e7 e8 e9 e10 e11 e12
    subst e0 e1 e2 e3 e4 e5 e6 e7 e8 e9 e10 e11 e12
    exact ⟨_, _, _, _, _, _, _, _, _, _, _, _, _, rfl, bounds_i64 wf0, bounds_i64 wf1, bounds_i64 wf2, bounds_i64 wf3, bounds_i64 wf4, bounds_i64 wf5, bounds_u32 wf6, bounds_u32 wf7, bounds_u32 wf8, bounds_u64 wf9, bounds_u64 wf10, bounds_u64 wf11, bounds_u64 wf12⟩
end Go.Proofs.YtachhbbofemfdaaDoor
namespace Go.Proofs.YtachhbbofemfdaaDoor
open Go.ChangeShapes Go.WideShapes Go.ChangeAt Go.RowKit Go.Joins
set_option linter.unusedSimpArgs false
set_option linter.unusedVariables false
set_option maxRecDepth 100000
/-- n rows of s cells each in a block below hi -/
def Sl (w : World) (hi : Nat) (A : Option Addr) (n s : Nat) (F : Nat → List Value) : Prop :=
  0 < n → ∃ b o, A = some ⟨b, o, none⟩ ∧ b < hi ∧ ∀ k, k < n → (F k).length = s ∧ w.rangeAt b (o + k * s) (F k)
theorem range_below {w w' : World} {b o B : Nat} {cs : List Value} (h : w.rangeAt b o cs) (hb : Below B w w') (h1 : b < B) : w'.rangeAt b o cs := fun j v hv => (hb.cell (p := ⟨b, o + j, none⟩) h1).trans (h j v hv)
theorem range_cell {w : World} {b o : Nat} {cs : List Value} (h : w.rangeAt b o cs) (i : Nat) {v : Value} (hv : cs[i]? = some v) : w.cell? ⟨b, o + i, none⟩ = some v := h i v hv
section
variable {w w' : World} {hi n s : Nat} {A : Option Addr} {F : Nat → List Value}
theorem Sl.below {B : Nat} (h : Sl w hi A n s F) (hb : Below B w w') (h1 : hi ≤ B) : Sl w' hi A n s F := fun hn => by
  obtain ⟨b, o, e, h2, hc⟩ := h hn
  exact ⟨b, o, e, h2, fun k hk => ⟨(hc k hk).1, range_below (hc k hk).2 hb (by omega)⟩⟩
theorem Sl.less {m : Nat} (h : Sl w hi A n s F) (hm : m ≤ n) : Sl w hi A m s F := fun hn => by
  obtain ⟨b, o, e, h2, hc⟩ := h (by omega)
  exact ⟨b, o, e, h2, fun k hk => hc k (by omega)⟩
end
section
variable {P : Program} {ops : Array Oper} {rest : List Oper} {o : Oper} {a : Act} {w : World} {Q : Exit → Act → World → Prop}
/-- a struct is read where a range of cells is known -/
theorem wpl_loadr (hw : Region.wanted o (yielded ops a.tmps) = true) (T : TypeId) (x : Operand) (ho : o.op = .load T x) (b i : Nat) (hx : a.eval x = .pointer (some ⟨b, i, none⟩)) (sub : List Value) (hr : w.rangeAt b i sub) (d : TypeDesc)
    (hu : P.underlying T = some d) (hd : d.isRow = true) (n : Nat) (hi : (P.info? T).map (·.size) = some n) (hn : sub.length = n)
    (h : wpList P ops Q rest (a.put o.dst (.agg sub.toArray)) w) : wpList P ops Q (o :: rest) a w := by
  subst hn
  exact wpl_want hw fun K hK => wp_load_mid T x ho b i hx sub d hr hu hd hi (hK _ _ h)
end
end Go.Proofs.YtachhbbofemfdaaDoor
namespace Go.Proofs.YtachhbbofemfdaaDoor
open Go.ChangeShapes Go.WideShapes Go.ChangeAt Go.RowKit Go.Joins
set_option linter.unusedSimpArgs false
set_option linter.unusedVariables false
set_option maxRecDepth 100000
theorem cellsU8 : Tryd.prog.cellsOf 5 = 1 := by kernel_rfl
theorem bytesU8 : Tryd.prog.bytesOf 5 = 1 := by kernel_rfl
end Go.Proofs.YtachhbbofemfdaaDoor
namespace Go.Proofs.YtachhbbofemfdaaDoor
open Go.ChangeShapes Go.WideShapes Go.ChangeAt Go.RowKit Go.Joins
set_option linter.unusedSimpArgs false
set_option linter.unusedVariables false
set_option maxRecDepth 100000
/-- the kind and the bytes of field k -/
def kdL (L : List (Int × List Int)) (k : Nat) : Int := (L.getD k (0, [])).1
def dtL (L : List (Int × List Int)) (k : Nat) : List Int := (L.getD k (0, [])).2
/-- a field's two cells, and its bytes in blocks below hi -/
def Xf (w : World) (hi b o : Nat) (kd : Int) (dt : List Int) : Prop :=
  ∃ A c, w.cell? ⟨b, o, none⟩ = some (.int .i64 kd) ∧ w.cell? ⟨b, o + 1, none⟩ = some (.slice A dt.length c) ∧ Bs w 0 hi A dt ∧ dt.length ≤ c ∧ c ≤ 9223372036854775807 ∧ (A = none → dt.length = 0 ∧ c = 0)
/-- a slice address of the fields L, all in blocks below hi -/
def Xs (w : World) (hi : Nat) (A : Option Addr) (L : List (Int × List Int)) : Prop :=
  0 < L.length → ∃ b o, A = some ⟨b, o, none⟩ ∧ b < hi ∧ ∀ k, k < L.length → Xf w hi b (o + k * 2) (kdL L k) (dtL L k)
section
variable {w w' : World} {hi hi' b o B : Nat} {A : Option Addr} {L : List (Int × List Int)} {kd : Int} {dt : List Int}
theorem Xf.below (h : Xf w hi b o kd dt) (hb : Below B w w') (h1 : hi ≤ B) (h2 : b < B) : Xf w' hi b o kd dt := by
  obtain ⟨A, c, c0, c1, hB, h3, h4, h5⟩ := h
  exact ⟨A, c, kept_cell hb c0 h2, kept_cell hb c1 h2, hB.below hb h1, h3, h4, h5⟩
theorem Xf.wide (h : Xf w hi b o kd dt) (h1 : hi ≤ hi') : Xf w hi' b o kd dt := by
  obtain ⟨A, c, c0, c1, hB, h3, h4, h5⟩ := h
  exact ⟨A, c, c0, c1, hB.wide (Nat.le_refl _) h1, h3, h4, h5⟩
theorem Xs.below (h : Xs w hi A L) (hb : Below B w w') (h1 : hi ≤ B) : Xs w' hi A L := fun hn => by
  obtain ⟨b, o, e, h2, hc⟩ := h hn
  exact ⟨b, o, e, h2, fun k hk => (hc k hk).below hb h1 (by omega)⟩
theorem Xs.wide (h : Xs w hi A L) (h1 : hi ≤ hi') : Xs w hi' A L := fun hn => by
  obtain ⟨b, o, e, h2, hc⟩ := h hn
  exact ⟨b, o, e, by omega, fun k hk => (hc k hk).wide h1⟩
theorem Xs.take (h : Xs w hi A L) (m : Nat) : Xs w hi A (L.take m) := fun hn => by
  rw [List.length_take] at hn
  obtain ⟨b, o, e, h2, hc⟩ := h (by omega)
  refine ⟨b, o, e, h2, fun k hk => ?_⟩
  rw [List.length_take] at hk
  have e1 : (L.take m).getD k (0, []) = L.getD k (0, []) := by
    rw [List.getD_eq_getElem?_getD, List.getD_eq_getElem?_getD, List.getElem?_take, if_pos (by omega)]
  unfold kdL dtL
  rw [e1]
  exact hc k (by omega)
theorem Xs.nil : Xs w hi A [] := fun h => by simp at h
end
theorem weights_elem {H : Type} {P : Program} {t e : TypeId} {d : DataW H} {elems spare : List (DataW H)} (hu : P.underlying t = some (.slice e)) (hd : d ∈ elems) {n : Nat} (hn : n ∈ d.weights P e) : n ∈ (DataW.slice elems spare).weights P t := by
  have all : ∀ l : List (DataW H), d ∈ l → n ∈ DataW.weightsAll P e l := fun l => by
    induction l with
    | nil => intro h; cases h
    | cons x r ih =>
      intro h
      rw [DataW.weightsAll]
      rcases List.mem_cons.1 h with rfl | h
      · exact List.mem_append_left _ hn
      · exact List.mem_append_right _ (ih h)
  rw [DataW.weights, hu]
  simp only [List.mem_cons, List.mem_append]
  exact .inr (.inl (all _ hd))
theorem cellsExt : Tryd.prog.cellsOf 62 = 2 := by kernel_rfl
theorem cellsI64 : Tryd.prog.cellsOf 3 = 1 := by kernel_rfl
theorem cellsSl8 : Tryd.prog.cellsOf 23 = 1 := by kernel_rfl
theorem sizeExt : (Tryd.prog.info? 62).map (·.size) = some 2 := by kernel_rfl
theorem zeroExt : (Tryd.prog.info? 62).map (·.zero) = some (some (.agg #[.int .i64 0, .slice none 0 0])) := by kernel_rfl
section
variable {H : Type} {enc : TypeId × Value → H}
/-- a byte slice that is a cell -/
theorem cell_bs {W : World} {base : Nat} {spare : Nat → Bool} {fuel : Nat} {v : Value} {x : DataW H × List MemPlace} (hs : ∀ b, spare b = true) (hf : DataW.trod enc Tryd.prog W base spare true fuel 23 [v] = some x) :
    ∃ (A : Option Addr) (n c : Nat) (l : List Int), v = .slice A n c ∧ l.length = n ∧ Bs W 0 W.heap.size A l ∧ n ≤ c ∧ c ≤ 9223372036854775807 ∧ (A = none → n = 0 ∧ c = 0) ∧ (0 < c → c ∈ x.1.weights Tryd.prog 23) := by
  rcases open_ints Tryd.underlying23 Tryd.underlying5 cellsU8 hf with ⟨hcs, hx⟩ | ⟨a, len', cap', zs, hcs, _, hl, hm, hz, hx, hcell, hwz⟩
  · simp at hcs
    subst hcs
    exact ⟨none, 0, 0, [], rfl, rfl, Bs.nil, Nat.le_refl _, by omega, fun _ => ⟨rfl, rfl⟩, fun h => absurd h (by omega)⟩
  · simp at hcs
    subst hcs
    rw [hs] at hz
    simp only [if_true] at hz
    refine ⟨some a, len', cap', zs.take len', rfl, by rw [List.length_take]; omega, ?_, hl, by unfold maxLen at hm; exact hm, (fun h => by cases h), fun hc => ?_⟩
    · refine ⟨fun y hy => ?_, fun hp => ?_⟩
      · exact bounds_u8 (hwz y (List.mem_of_mem_take hy))
      · rw [List.length_take] at hp
        obtain ⟨ab, ao, spot⟩ := a
        have h0 := hcell 0 (by omega)
        have hspot : spot = none := by simpa [Addr.add] using World.cell?_spot h0
        subst hspot
        refine ⟨ab, ao, rfl, Nat.zero_le _, ?_, fun k hk => ?_⟩
        · have := World.block_lt_of_cell? W _ h0
          simpa [ofAdd] using this
        · rw [List.length_take] at hk
          have hck := hcell k (by omega)
          rw [ofAdd] at hck
          rw [hck]
          have hkl : k < len' := by omega
          simp [atB, List.getD_eq_getElem?_getD, List.getElem?_take, hkl]
    · rw [hx]
      rw [DataW.weights, Tryd.underlying23]
      simp only [List.mem_cons]
      left
      rw [bytesU8]
      simp [lits]
      omega
end
end Go.Proofs.YtachhbbofemfdaaDoor
namespace Go.Proofs.YtachhbbofemfdaaDoor
open Go.RowKit
set_option linter.unusedSimpArgs false
set_option linter.unusedVariables false
set_option maxRecDepth 100000
/-- the number whose bytes are l, most significant first -/
def stepB (n x : Int) : Int := (n * 256 + x) % 18446744073709551616
def numB (l : List Int) : Int := l.foldl stepB 0
theorem take_succ' (l : List Int) (k : Nat) (h : k < l.length) : l.take (k + 1) = l.take k ++ [atB l k] := by
  rw [List.take_add_one, List.getElem?_eq_getElem h]
  unfold atB; rw [List.getD_eq_getElem?_getD, List.getElem?_eq_getElem h]; rfl
theorem numB_succ (l : List Int) (k : Nat) (h : k < l.length) : numB (l.take (k + 1)) = stepB (numB (l.take k)) (atB l k) := by
  rw [take_succ' l k h]
  unfold numB
  rw [List.foldl_append]; rfl
theorem stepB_range (n x : Int) : 0 ≤ stepB n x ∧ stepB n x < 18446744073709551616 := by unfold stepB; omega
theorem foldB_range (l : List Int) : ∀ n : Int, 0 ≤ n ∧ n < 18446744073709551616 → 0 ≤ l.foldl stepB n ∧ l.foldl stepB n < 18446744073709551616 := by
  induction l with
  | nil => intro n h; exact h
  | cons x l ih => intro n h; exact ih _ (stepB_range n x)
theorem numB_range (l : List Int) : 0 ≤ numB l ∧ numB l < 18446744073709551616 := foldB_range l 0 (by omega)
theorem shl_or (n x : Int) (h0 : 0 ≤ n) (hx : 0 ≤ x ∧ x ≤ 255) : bits .or .u64 (IntKind.u64.wrap (n * 256)) x = stepB n x := by
  unfold stepB; rw [IntKind.wrap_u64, or_u64_8 _ _ (by omega) (by omega) (by omega) hx.1 (by omega) ]
  omega
set_option maxHeartbeats 400000 in
theorem sized_any (s : Int) (w : World) :
    Calls Tryd.prog 78 #[.int .i64 s] w fun e w' => e = .returned (.bool (decide (1 ≤ s ∧ s ≤ 8))) ∧ w = w' := by
  by_cases h1 : 1 ≤ s <;> by_cases h2 : s ≤ 8
  all_goals
    go_enter Tryd.func78, Tryd.ntmps78
    go_wp2
    go_ret
    exact ⟨by simp [*], rfl⟩
set_option maxHeartbeats 1000000 in
theorem number_any (A : Option Addr) (n c lo hi : Nat) (l : List Int) (w : World) (hn : l.length = n) (h : Bs w lo hi A l) (hm : l.length ≤ 9223372036854775807) :
    Calls Tryd.prog 92 #[.slice A n c] w fun e w' => e = .returned (.int .u64 (numB l)) ∧ w = w' := by
  subst hn
  go_enter Tryd.func92, Tryd.ntmps92
  go_wp2
  go_loop [3, 7] (fun n i => ∃ k : Nat, k ≤ l.length ∧ i = .int .i64 k ∧ n = .int .u64 (numB (l.take k))) (fun _ i => l.length - (intOf i).toNat)
  case atStart => exact ⟨0, by omega, rfl, by simp [numB]⟩
  case round =>
    obtain ⟨k, hk, rfl, rfl⟩ := hrel
    by_cases hlt : k < l.length
    · obtain ⟨b, o, rfl, _, _, hc⟩ := h.at (by omega)
      have hck := hc k hlt
      have hby := h.byt.at k
      have hS := numB_succ l k hlt
      have hr := numB_range (l.take k)
      have hO := shl_or (numB (l.take k)) (atB l k) hr.1 hby
      have hw : IntKind.u64.wrap (atB l k) = atB l k := by rw [IntKind.wrap_u64]; omega
      go_wp2
      exact ⟨⟨k + 1, by omega, by go_num, by rw [hS]⟩, by simp [intOf]; omega⟩
    · obtain rfl : k = l.length := by omega
      go_wp2
      go_ret
      exact ⟨by simp, rfl⟩
/-- what Get returns -/
def getE (n at_ s : Int) : Int := if 1 ≤ s ∧ s ≤ 8 then (if 0 ≤ at_ ∧ s ≤ n - at_ then 0 else 5) else 2
def getV (l : List Int) (at_ s : Int) : Int := numB ((l.drop at_.toNat).take s.toNat)
abbrev getR (l : List Int) (at_ s : Int) : Value := .tuple #[.int .u64 (z0 (getE l.length at_ s) (getV l at_ s)), .int .i64 (getE l.length at_ s)]
theorem getE_2 {n at_ s : Int} (h : ¬(1 ≤ s ∧ s ≤ 8)) : getE n at_ s = 2 := by simp [getE, h]
theorem getE_5 {n at_ s : Int} (h : 1 ≤ s ∧ s ≤ 8) (h' : ¬(0 ≤ at_ ∧ s ≤ n - at_)) : getE n at_ s = 5 := by simp only [getE, if_pos h, if_neg h']
theorem getE_0 {n at_ s : Int} (h : 1 ≤ s ∧ s ≤ 8) (h' : 0 ≤ at_ ∧ s ≤ n - at_) : getE n at_ s = 0 := by simp only [getE, if_pos h, if_pos h']
set_option maxHeartbeats 1000000 in
theorem get_any (A : Option Addr) (n c lo hi : Nat) (l : List Int) (at_ s : Int) (w : World) (hn : l.length = n) (h : Bs w lo hi A l) (hm : n ≤ c) (hc : c ≤ 9223372036854775807) (hat : at_ ≤ 9223372036854775807) :
    Calls Tryd.prog 91 #[.slice A n c, .int .i64 at_, .int .i64 s] w fun e w' => e = .returned (getR l at_ s) ∧ w = w' := by
  subst hn
  by_cases hs : 1 ≤ s ∧ s ≤ 8
  · by_cases ha : 0 ≤ at_ ∧ s ≤ l.length - at_
    · have HR : Hid (getR l at_ s = .tuple #[.int .u64 (getV l at_ s), .int .i64 0]) := by show getR l at_ s = _; rw [getR, getE_0 hs ha, z0_zero]
      obtain ⟨a, rfl⟩ : ∃ a : Nat, at_ = a := ⟨at_.toNat, by omega⟩
      obtain ⟨m, rfl⟩ : ∃ m : Nat, s = m := ⟨s.toNat, by omega⟩
      have hq := h.cutm a m
      have hlen : ((l.drop a).take m).length = m := by simp; omega
      have hs1 := hs.1
      have hs2 := hs.2
      have ha2 := ha.2
      go_enter Tryd.func91, Tryd.ntmps91
      go_wp2_with (first | (go_at_call 78; ((with_reducible refine (sized_any _ _).mono ?_); rintro e w1 ⟨rfl, rfl⟩)) | (go_at_call 92; ((with_reducible refine (number_any _ _ _ lo hi _ _ hlen hq (by omega)).mono ?_); rintro e w1 ⟨rfl, rfl⟩)))
      go_ret2
      exact ⟨ret_val HR.out.symm, rfl⟩
    · have HR : Hid (getR l at_ s = .tuple #[.int .u64 0, .int .i64 5]) := by show getR l at_ s = _; rw [getR, getE_5 hs ha]; rfl
      have hs1 := hs.1
      have hs2 := hs.2
      by_cases h0 : 0 ≤ at_
      · have h1 : l.length - at_ < s := by omega
        clear ha
        go_enter Tryd.func91, Tryd.ntmps91
        go_wp2_with (first | (go_at_call 78; ((with_reducible refine (sized_any _ _).mono ?_); rintro e w1 ⟨rfl, rfl⟩)))
        go_ret2
        exact ⟨ret_val HR.out.symm, rfl⟩
      · clear ha
        go_enter Tryd.func91, Tryd.ntmps91
        go_wp2_with (first | (go_at_call 78; ((with_reducible refine (sized_any _ _).mono ?_); rintro e w1 ⟨rfl, rfl⟩)))
        go_ret2
        exact ⟨ret_val HR.out.symm, rfl⟩
  · have HR : Hid (getR l at_ s = .tuple #[.int .u64 0, .int .i64 2]) := by show getR l at_ s = _; rw [getR, getE_2 hs]; rfl
    go_enter Tryd.func91, Tryd.ntmps91
    go_wp2_with (first | (go_at_call 78; ((with_reducible refine (sized_any _ _).mono ?_); rintro e w1 ⟨rfl, rfl⟩)))
    go_ret2
    exact ⟨ret_val HR.out.symm, rfl⟩
theorem take_cut (l : List Int) (a k : Nat) (h : a + k < l.length) : (l.drop a).take (k + 1) = (l.drop a).take k ++ [atB l (a + k)] := by
  rw [take_succ' _ k (by rw [List.length_drop]; omega)]
  congr 2
  simp [atB, List.getD_eq_getElem?_getD]
theorem numB_cut (l : List Int) (a k : Nat) (h : a + k < l.length) : numB ((l.drop a).take (k + 1)) = stepB (numB ((l.drop a).take k)) (atB l (a + k)) := by
  rw [take_cut l a k h]
  unfold numB
  rw [List.foldl_append]; rfl
set_option maxHeartbeats 1000000 in
theorem rget_any (A : Option Addr) (n c lo hi : Nat) (l : List Int) (at_ s : Int) (w : World) (hn : l.length = n) (h : Bs w lo hi A l) (hm : n ≤ c) (hc : c ≤ 9223372036854775807) (hat : at_ ≤ 9223372036854775807) :
    Calls Tryd.prog 67 #[.slice A n c, .int .i64 at_, .int .i64 s] w fun e w' => e = .returned (getR l at_ s) ∧ w = w' := by
  subst hn
  by_cases hs : 1 ≤ s ∧ s ≤ 8
  · by_cases ha : 0 ≤ at_ ∧ s ≤ l.length - at_
    · have HR : Hid (getR l at_ s = .tuple #[.int .u64 (getV l at_ s), .int .i64 0]) := by show getR l at_ s = _; rw [getR, getE_0 hs ha, z0_zero]
      obtain ⟨a, rfl⟩ : ∃ a : Nat, at_ = a := ⟨at_.toNat, by omega⟩
      obtain ⟨m, rfl⟩ : ∃ m : Nat, s = m := ⟨s.toNat, by omega⟩
      have hs1 := hs.1
      have hs2 := hs.2
      have ha2 := ha.2
      have ha3 : ¬ (l.length : Int) < a := by omega
      have ha4 : ¬ (l.length : Int) - a < m := by omega
      obtain ⟨b, o, rfl, _, _, hc'⟩ := h.at (by omega)
      go_enter Tryd.func67, Tryd.ntmps67
      go_wp2
      go_loop [8, 9] (fun n i => ∃ k : Nat, k ≤ m ∧ i = .int .i64 k ∧ n = .int .u64 (numB ((l.drop a).take k))) (fun _ i => m - (intOf i).toNat)
      case atStart => exact ⟨0, by omega, rfl, by simp [numB]⟩
      case round =>
        obtain ⟨k, hk, rfl, rfl⟩ := hrel
        by_cases hlt : k < m
        · have hck := hc' (a + k) (by omega)
          have hby := h.byt.at (a + k)
          have hS := numB_cut l a k (by omega)
          have hr := numB_range ((l.drop a).take k)
          have hO := shl_or (numB ((l.drop a).take k)) (atB l (a + k)) hr.1 hby
          have hw : IntKind.u64.wrap (atB l (a + k)) = atB l (a + k) := by rw [IntKind.wrap_u64]; omega
          go_wp2
          exact ⟨⟨k + 1, by omega, by go_num, by rw [hS]⟩, by simp [intOf]; omega⟩
        · obtain rfl : k = m := by omega
          go_wp2
          go_ret2
          exact ⟨ret_val (by rw [HR.out]; rfl), rfl⟩
    · have HR : Hid (getR l at_ s = .tuple #[.int .u64 0, .int .i64 5]) := by show getR l at_ s = _; rw [getR, getE_5 hs ha]; rfl
      have hs1 := hs.1
      have hs2 := hs.2
      by_cases h0 : 0 ≤ at_
      · by_cases h2 : l.length < at_
        · clear ha
          go_enter Tryd.func67, Tryd.ntmps67
          go_wp2
          go_ret2
          exact ⟨ret_val HR.out.symm, rfl⟩
        · have h1 : l.length - at_ < s := by omega
          clear ha
          go_enter Tryd.func67, Tryd.ntmps67
          go_wp2
          go_ret2
          exact ⟨ret_val HR.out.symm, rfl⟩
      · clear ha
        go_enter Tryd.func67, Tryd.ntmps67
        go_wp2
        go_ret2
        exact ⟨ret_val HR.out.symm, rfl⟩
  · have HR : Hid (getR l at_ s = .tuple #[.int .u64 0, .int .i64 2]) := by show getR l at_ s = _; rw [getR, getE_2 hs]; rfl
    go_enter Tryd.func67, Tryd.ntmps67
    by_cases h1 : 1 ≤ s
    · have h2 : ¬ s ≤ 8 := by omega
      clear hs
      go_wp2
      go_ret2
      exact ⟨ret_val HR.out.symm, rfl⟩
    · clear hs
      go_wp2
      go_ret2
      exact ⟨ret_val HR.out.symm, rfl⟩
end Go.Proofs.YtachhbbofemfdaaDoor
