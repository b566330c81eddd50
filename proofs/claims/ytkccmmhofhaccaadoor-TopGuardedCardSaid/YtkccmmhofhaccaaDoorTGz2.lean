/- The mixing function, of the program and of the reference. How a law's statement follows from its walk: the reading of the arguments stands behind the call as before, where the call has made new blocks only. The table of rounds lies as the program's text lays it: what the condition of a row that lists it gives, and a world that meets it. The type of headers: its size, its zero; small laws on memory for regions that draw their order. Structs by value, opened field by field, whatever their fields; a header opened. Slices of structs that came in: each element's cells; the laws of load where a range of cells is known. No function of the program occurs here. A byte slice that came in, opened: what its cells hold, its bounds. Lists of extension fields in memory; a list that came in, opened. -/
import Derived.Test.YtkccmmhofhaccaaDoorTGz1
import Derived.ShutString
import Derived.Lib.SmallJoins
import Derived.Carry
import Derived.ChangeSame
import Derived.ChangeArms
import Derived.ChangeVars
import Derived.OpenShut
import Derived.JoinedOf
import Derived.RowKit
import Derived.RowKitTokens
import Derived.LaidLaws
import Derived.Deep.DeepLaidRun
import Derived.Deep.Fields
import Derived.Deep.Slices
import Derived.SizedLaws
namespace Go.Proofs.YtkccmmhofhaccaaDoor
open Go.RowKit
set_option linter.unusedSimpArgs false
set_option linter.unusedVariables false
set_option maxRecDepth 100000
/-- one round -/
def rndF (x s m : Int) : Int := IntKind.u64.wrap (bits .xor .u64 x (x / s) * m)
def mix0 (a b : Int) : Int := IntKind.u64.wrap (a + IntKind.u64.wrap (11400714819323198485 * IntKind.u64.wrap (b + 1)))
def mixF (a b : Int) : Int := rndF (rndF (rndF (mix0 a b) 1073741824 13787848793156543929) 134217728 10723151780598845931) 2147483648 1
def U64 (x : Int) : Prop := 0 ≤ x ∧ x ≤ 18446744073709551615
theorem wrap_u64 (x : Int) : U64 (IntKind.u64.wrap x) := by rw [IntKind.wrap_u64]; unfold U64; omega
theorem rndF_u64 (x s m : Int) : U64 (rndF x s m) := wrap_u64 _
theorem mix0_u64 (a b : Int) : U64 (mix0 a b) := wrap_u64 _
theorem mixF_u64 (a b : Int) : U64 (mixF a b) := rndF_u64 _ _ _
theorem xor_u64 {x y : Int} (hx : U64 x) (hy : U64 y) : U64 (bits .xor .u64 x y) := by
  obtain ⟨x0, x1⟩ := hx
  obtain ⟨y0, y1⟩ := hy
  rw [Go.u64_xor x y x0 (by omega) y0 (by omega)]
  have h : x.toNat ^^^ y.toNat < 2 ^ 64 := Nat.xor_lt_two_pow (by omega) (by omega)
  unfold U64
  omega
theorem rndF_one {x : Int} (hx : U64 x) : rndF x 2147483648 1 = bits .xor .u64 x (x / 2147483648) := by
  have h := xor_u64 hx (y := x / 2147483648) ⟨by obtain ⟨h0, h1⟩ := hx; omega, by obtain ⟨h0, h1⟩ := hx; omega⟩
  obtain ⟨h0, h1⟩ := h
  unfold rndF
  rw [Int.mul_one, IntKind.wrap_u64]
  omega
/-- the table of rounds lies in the first block -/
def Rnd (w : World) : Prop := ∃ t : TypeId, Blk w 0 t [.int .u64 30, .int .u64 13787848793156543929, .int .u64 27, .int .u64 10723151780598845931, .int .u64 31, .int .u64 1]
theorem Rnd.lt {w : World} (h : Rnd w) : 0 < w.heap.size := by obtain ⟨t, h⟩ := h; exact Blk.lt h
theorem Rnd.below {w w' : World} {B : Nat} (h : Rnd w) (hb : Below B w w') (hB : 0 < B) : Rnd w' := by obtain ⟨t, h⟩ := h; exact ⟨t, Blk.below h hb hB⟩
theorem Rnd.but {w w' : World} {g : Nat} (h : Rnd w) (hb : But g w w') (hg : 0 ≠ g) : Rnd w' := by obtain ⟨t, h⟩ := h; exact ⟨t, Blk.but h hb hg⟩
theorem Rnd.blk {w : World} (h : Rnd w) : ∃ t : TypeId, Blk w 0 t [.int .u64 30, .int .u64 13787848793156543929, .int .u64 27, .int .u64 10723151780598845931, .int .u64 31, .int .u64 1] := h
theorem Kp.rnd {x y : World} {G : List Nat} (h : Kp x G y) (hR : Rnd x) (hg : 0 ∉ G) : Rnd y := by obtain ⟨t, hR⟩ := hR; exact ⟨t, h.blk hR hg⟩
def mixK (a b : Int) : Nat → Int
  | 0 => mix0 a b
  | 1 => rndF (mix0 a b) 1073741824 13787848793156543929
  | 2 => rndF (rndF (mix0 a b) 1073741824 13787848793156543929) 134217728 10723151780598845931
  | _ => mixF a b
theorem mixK_u64 (a b : Int) (k : Nat) : U64 (mixK a b k) := by
  match k with
  | 0 => exact mix0_u64 a b
  | 1 => exact rndF_u64 _ _ _
  | 2 => exact rndF_u64 _ _ _
  | k + 3 => exact mixF_u64 a b
theorem sizeRnd : (Tryd.prog.info? 101).map (·.size) = some 2 := by kernel_rfl
theorem sizeRnds : (Tryd.prog.info? 102).map (·.size) = some 6 := by kernel_rfl
theorem zeroRnd : (Tryd.prog.info? 101).map (·.zero) = some (some (.agg #[.int .u64 0, .int .u64 0])) := by kernel_rfl
set_option maxHeartbeats 4000000 in
theorem mix_any (a b : Int) (w : World) (ha : U64 a) (hb : U64 b) (hR : Rnd w) : Calls Tryd.prog 33 #[.int .u64 a, .int .u64 b] w fun e w' => e = .returned (.int .u64 (mixF a b)) ∧ Below w.heap.size w w' := by
  obtain ⟨a0, a1⟩ := ha
  obtain ⟨b0, b1⟩ := hb
  have i0 : ∀ w, (Instr.index 102 (.agg #[.int .u64 30, .int .u64 13787848793156543929, .int .u64 27, .int .u64 10723151780598845931, .int .u64 31, .int .u64 1]) (.int .i64 0)).run Tryd.prog w = .ok (.agg #[.int .u64 30, .int .u64 13787848793156543929]) w := fun _ => by kernel_rfl
  have i1 : ∀ w, (Instr.index 102 (.agg #[.int .u64 30, .int .u64 13787848793156543929, .int .u64 27, .int .u64 10723151780598845931, .int .u64 31, .int .u64 1]) (.int .i64 1)).run Tryd.prog w = .ok (.agg #[.int .u64 27, .int .u64 10723151780598845931]) w := fun _ => by kernel_rfl
  have i2 : ∀ w, (Instr.index 102 (.agg #[.int .u64 30, .int .u64 13787848793156543929, .int .u64 27, .int .u64 10723151780598845931, .int .u64 31, .int .u64 1]) (.int .i64 2)).run Tryd.prog w = .ok (.agg #[.int .u64 31, .int .u64 1]) w := fun _ => by kernel_rfl
  have hm0 : IntKind.u64.wrap (a + IntKind.u64.wrap (11400714819323198485 * IntKind.u64.wrap (b + 1))) = mix0 a b := rfl
  obtain ⟨tR, J⟩ := hR.blk
  clear hR
  go_enter Tryd.func33, Tryd.ntmps33
  go_wp2_with (first | (refine wpl_load (by rfl) 102 _ (by rfl) 0 (by rfl) tR _ J _ Tryd.underlying102 rfl _ sizeRnds (by rfl) ?_))
  go_loopw [5, 14] (fun x i wr => ∃ k : Nat, k ≤ 3 ∧ i = .int .i64 k ∧ x = .int .u64 (mixK a b k) ∧ Below w.heap.size w wr) (fun _ i _ => 3 - (intOf i).toNat)
  case atStart => exact ⟨0, by omega, rfl, rfl, Below.refl _ _⟩
  case round =>
    obtain ⟨k, hk, rfl, rfl, hB⟩ := hrel
    obtain ⟨wo, rfl⟩ : ∃ wo : World, wo = wr := ⟨wr, rfl⟩
    clear hm0 J
    have hX := mixK_u64 a b k
    obtain ⟨x0, x1⟩ := hX
    have : k = 0 ∨ k = 1 ∨ k = 2 ∨ k = 3 := by omega
    rcases this with rfl | rfl | rfl | rfl
    · skip
      go_wp2_with (first
        | (refine wpl_alloc (by rfl) 101 (by rfl) (.agg #[.int .u64 0, .int .u64 0]) [.int .u64 0, .int .u64 0] zeroRnd rfl ?_; intro wa Ja sa ba)
        | (refine wpl_store (by rfl) 101 _ _ (by rfl) wo.heap.size (by rfl) _ (by rfl) [.int .u64 30, .int .u64 13787848793156543929] rfl 101 _ Ja (by rfl) _ sizeRnd (by rfl) (by simp [Value.oneCell']) ?_; intro wb Jb sb gb)
        | (refine wpl_loadf (by rfl) 79 _ (by rfl) wo.heap.size 0 (by rfl) _ _ Jb _ rfl _ Tryd.underlying79 rfl ?_)
        | (refine wpl_loadf (by rfl) 22 _ (by rfl) wo.heap.size 1 (by rfl) _ _ Jb _ rfl _ Tryd.underlying22 rfl ?_))
      have Bb := (hB.trans (ba.mono hB.size)).trans (gb.below (by have := hB.size; omega) hB.size)
      exact ⟨⟨1, by omega, rfl, rfl, Bb⟩, by simp [intOf] <;> decide⟩
    · skip
      go_wp2_with (first
        | (refine wpl_alloc (by rfl) 101 (by rfl) (.agg #[.int .u64 0, .int .u64 0]) [.int .u64 0, .int .u64 0] zeroRnd rfl ?_; intro wa Ja sa ba)
        | (refine wpl_store (by rfl) 101 _ _ (by rfl) wo.heap.size (by rfl) _ (by rfl) [.int .u64 27, .int .u64 10723151780598845931] rfl 101 _ Ja (by rfl) _ sizeRnd (by rfl) (by simp [Value.oneCell']) ?_; intro wb Jb sb gb)
        | (refine wpl_loadf (by rfl) 79 _ (by rfl) wo.heap.size 0 (by rfl) _ _ Jb _ rfl _ Tryd.underlying79 rfl ?_)
        | (refine wpl_loadf (by rfl) 22 _ (by rfl) wo.heap.size 1 (by rfl) _ _ Jb _ rfl _ Tryd.underlying22 rfl ?_))
      have Bb := (hB.trans (ba.mono hB.size)).trans (gb.below (by have := hB.size; omega) hB.size)
      exact ⟨⟨2, by omega, rfl, rfl, Bb⟩, by simp [intOf] <;> decide⟩
    · skip
      go_wp2_with (first
        | (refine wpl_alloc (by rfl) 101 (by rfl) (.agg #[.int .u64 0, .int .u64 0]) [.int .u64 0, .int .u64 0] zeroRnd rfl ?_; intro wa Ja sa ba)
        | (refine wpl_store (by rfl) 101 _ _ (by rfl) wo.heap.size (by rfl) _ (by rfl) [.int .u64 31, .int .u64 1] rfl 101 _ Ja (by rfl) _ sizeRnd (by rfl) (by simp [Value.oneCell']) ?_; intro wb Jb sb gb)
        | (refine wpl_loadf (by rfl) 79 _ (by rfl) wo.heap.size 0 (by rfl) _ _ Jb _ rfl _ Tryd.underlying79 rfl ?_)
        | (refine wpl_loadf (by rfl) 22 _ (by rfl) wo.heap.size 1 (by rfl) _ _ Jb _ rfl _ Tryd.underlying22 rfl ?_))
      have Bb := (hB.trans (ba.mono hB.size)).trans (gb.below (by have := hB.size; omega) hB.size)
      exact ⟨⟨3, by omega, rfl, by show _ = Value.int .u64 (rndF (mixK a b 2) 2147483648 1); unfold rndF; rw [Int.mul_one], Bb⟩, by simp [intOf] <;> decide⟩
    · skip
      go_wp2
      go_ret
      exact ⟨rfl, hB⟩
end Go.Proofs.YtkccmmhofhaccaaDoor
namespace Go.Proofs.YtkccmmhofhaccaaDoor
open Go.ChangeShapes Go.WideShapes Go.ChangeAt Go.RowKit Go.Joins
set_option linter.unusedSimpArgs false
set_option linter.unusedVariables false
set_option maxRecDepth 100000
theorem own : ownKnob Tryd.prog.godebug = none := by kernel_rfl
theorem laidOut : laidOutB Tryd.prog = true := by kernel_rfl
section
variable {H : Type} {enc : TypeId × Value → H} {P : Program}
theorem below_trodAll (hl : laidOutB P = true) {W W' : World} (hb : Below W.heap.size W W') (sp : Nat → Bool) : ∀ (ts : List TypeId) (vs : List Value) (ds : List (DataW H)) (ps : List MemPlace),
    (∀ t ∈ ts, P.readableRec t = true ∧ t < P.types.size) → DataW.TrodAll enc P W 0 (fun _ => true) true ts vs ds ps → (∀ x ∈ ps, x.block < W.heap.size) → (∀ x ∈ ps, sp x.block = true) → DataW.TrodAll enc P W' 0 sp true ts vs ds ps
  | [], vs, ds, ps, _, h, _, _ => by
      obtain ⟨rfl, rfl, rfl⟩ := trodAll_nil h
      exact trodAll_mk0
  | t :: ts, vs, ds, ps, hr, h, hlt, hsp => by
      obtain ⟨v, vs', d, ds', p, q, rfl, rfl, rfl, h0, r0⟩ := trodAll_cons h
      obtain ⟨hr1, hr2⟩ := hr t (by simp)
      exact trodAll_cons_mk (WideElems.Trod_stays hl hr1 hr2 h0 (fun x hx => hb.same (hlt x (by simp [hx]))) (fun x hx => hsp x (by simp [hx])))
        (below_trodAll hl hb sp ts vs' ds' q (fun t ht => hr t (by simp [ht])) r0 (fun x hx => hlt x (by simp [hx])) (fun x hx => hsp x (by simp [hx])))
/-- The post of a law: it returned true; of what was there nothing has turned. -/
theorem law_post {f : Func} {s : ChangeSpec} {apart fresh handsOn again : Bool} {W W' : World} {args : Array Value} {ds : List (DataW H)} {before : List MemPlace} {tb : TypeId} (hl : laidOutB P = true) (hbool : P.underlying tb = some .bool)
    (hrt : f.resultTypes = #[tb]) (hpar : ∀ t ∈ f.params.toList, P.readableRec t = true ∧ t < P.types.size) (hvars : s.vars = [])
    (h1 : (s.fn H ds).results = [.lit (.bool true)]) (h2 : (s.fn H ds).args = ds) (h3 : (s.fn H ds).vars = [])
    (hW : DataW.Whole enc P f.params.toList s.vars apart W args.toList ds [] before) (hb : Below W.heap.size W W') : s.post enc P f apart fresh handsOn again W args (.bool true) W' := by
  have hlt : ∀ x ∈ before, x.block < W.heap.size := fun x hx => hW.lt x hx
  have hW' := hW
  obtain ⟨p, q, hA, hV, hp, hz, hn⟩ := hW'
  rw [hvars] at hV
  obtain ⟨_, hq⟩ := trodVars_none hV
  rw [hq, List.append_nil] at hp
  have args' : ∀ sp : Nat → Bool, (∀ x ∈ before, sp x.block = true) → DataW.TrodAll enc P W' 0 sp true f.params.toList args.toList ds before := fun sp hsp => by
    rw [hp] at hlt hsp ⊢
    exact below_trodAll hl hb sp _ _ _ _ hpar hA hlt hsp
  have res' : ∀ (b : Nat) (sp : Nat → Bool) (hd : Bool), DataW.TrodAll enc P W' b sp hd f.resultTypes.toList ((Value.bool true).resultList f.resultTypes.size) [.lit (.bool true)] [] := fun b sp hd => by
    rw [hrt]
    exact trodAll_mk1 (shut_bool hbool true)
  have vars' : ∀ sp : Nat → Bool, DataW.TrodVars enc P W' sp s.vars [] [] := fun sp => by rw [hvars]; rfl
  have e0 : ds ++ [] = ds := List.append_nil ds
  refine ⟨ds, [], before, [], before, [], hW, ?_, ?_, ?_, ?_, ?_⟩
  · rw [e0, h1]; exact res' _ _ _
  · rw [e0, h2]; exact args' _ (fun x hx => by simpa using hlt x hx)
  · rw [e0, h3]; exact vars' _
  · exact World.keptBut_mono (fun x hx => ⟨hx, Or.inr (Or.inl hx)⟩) (hb.frame (· ∈ before))
  · intro _
    refine ⟨?_, [.lit (.bool true)] ++ ds, [], before, ⟨before, [], ?_, vars' _, by simp, ?_, fun ha => hn ha⟩, fun x hx _ => hx⟩
    · exact ok_one hrt rfl (okWide_bool_mk hbool true)
    · exact trodAll_append (args' (fun _ => true) (fun _ _ => rfl)) (res' _ _ _)
    · intro b off hx
      rw [hb.frozen (hlt _ hx)]
      exact hz b off hx
end
end Go.Proofs.YtkccmmhofhaccaaDoor
namespace Go.Proofs.YtkccmmhofhaccaaDoor
open Go.ChangeShapes Go.WideShapes Go.ChangeAt Go.RowKit Go.Joins
set_option linter.unusedSimpArgs false
set_option linter.unusedVariables false
set_option maxRecDepth 100000
abbrev laidR : List (String × DataW Unit) := [("timesync/prng.rounds", Rows.laid_timesync_prng_rounds)]
theorem rg_glob : Tryd.prog.globalNamed "timesync/prng.rounds" = some 0 := by kernel_rfl
theorem rg_type : (Tryd.prog.globals[0]?).map (·.type) = some 102 := by kernel_rfl
theorem cellsRnds : Tryd.prog.cellsOf 102 = 6 := by kernel_rfl
theorem cellsRnd : Tryd.prog.cellsOf 101 = 2 := by kernel_rfl
theorem cellsU : Tryd.prog.cellsOf 79 = 1 := by kernel_rfl
theorem cellsU64r : Tryd.prog.cellsOf 22 = 1 := by kernel_rfl
section
variable {H : Type} {enc : TypeId × Value → H} {w : World} {base : Nat} {spare : Nat → Bool} {held : Bool}
theorem round_cells {fuel : Nat} {cs : List Value} {x : DataW H × List MemPlace} (h : DataW.trod enc Tryd.prog w base spare held fuel 101 cs = some x) : ∃ a b : Int, cs = [.int .u64 a, .int .u64 b] ∧ x.1 = .agg [.lit (.int .u64 a), .lit (.int .u64 b)] := by
  obtain ⟨y0, y1, n, rfl, hl, h0, h1⟩ := trod_struct2 Tryd.underlying101 h
  rw [cellsRnd] at hl
  match cs, hl with
  | [c0, c1], _ =>
    obtain ⟨a, e0, rfl, _⟩ := DataW.trod_int Tryd.underlying79 h0
    obtain ⟨b, e1, rfl, _⟩ := DataW.trod_int Tryd.underlying22 h1
    simp [cellsU, cellsU64r] at e0 e1
    subst e0 e1
    exact ⟨a, b, rfl, rfl⟩
theorem rounds_cells {fuel : Nat} {cs : List Value} {p : List MemPlace} (h : DataW.trod enc Tryd.prog w base spare held fuel 102 cs = some (Rows.laid_timesync_prng_rounds, p)) : cs = [.int .u64 30, .int .u64 13787848793156543929, .int .u64 27, .int .u64 10723151780598845931, .int .u64 31, .int .u64 1] := by
  obtain ⟨xs, m, _, hx, hl, hxl, hf⟩ := DataW.trod_array Tryd.underlying102 h
  rw [cellsRnds] at hl
  match cs, hl, xs, hxl with
  | [c0, c1, c2, c3, c4, c5], _, [y0, y1, y2], _ =>
    have h0 := hf 0 (by omega)
    have h1 := hf 1 (by omega)
    have h2 := hf 2 (by omega)
    simp only [cellsRnd, Nat.zero_mul, Nat.one_mul, List.drop_zero, List.drop_succ_cons, List.take_succ_cons, List.take_zero, List.getElem?_cons_zero, List.getElem?_cons_succ, show (2 : Nat) * 2 = 4 from rfl] at h0 h1 h2
    obtain ⟨a0, b0, e0, f0⟩ := round_cells h0
    obtain ⟨a1, b1, e1, f1⟩ := round_cells h1
    obtain ⟨a2, b2, e2, f2⟩ := round_cells h2
    have hx1 := congrArg Prod.fst hx
    simp only [List.map_cons, List.map_nil, f0, f1, f2, Rows.laid_timesync_prng_rounds] at hx1
    simp at hx1 e0 e1 e2
    obtain ⟨⟨rfl, rfl⟩, ⟨rfl, rfl⟩, rfl, rfl⟩ := hx1
    obtain ⟨rfl, rfl⟩ := e0
    obtain ⟨rfl, rfl⟩ := e1
    obtain ⟨rfl, rfl⟩ := e2
    rfl
end
theorem rnd_of_laid {W : World} (h : laidMet Tryd.prog laidR W) : Rnd W := by
  obtain ⟨ps, ⟨g, t, cs, fuel, p, q, hg, ht, hvar, hd, _, hps⟩, _, hz⟩ := h
  obtain rfl := Option.some.inj (rg_glob.symm.trans hg)
  obtain rfl := Option.some.inj (rg_type.symm.trans ht)
  have hc := rounds_cells hd
  have hmem : MemPlace.cell 0 0 ∈ ps := by
    rw [hps]
    refine List.mem_append_left _ (List.mem_append_left _ ?_)
    have hs : cs.size = 6 := by rw [← Array.length_toList, hc]; rfl
    rw [hs]
    decide
  obtain ⟨⟨c, t, hh⟩, _⟩ := hz 0 0 hmem
  unfold World.var? at hvar
  rw [rg_glob] at hvar
  simp only [Option.bind_some, hh, Option.some.injEq] at hvar
  subst hvar
  refine ⟨t, ?_⟩
  unfold Blk
  rw [hh]
  congr 2
  apply Array.toList_inj.1
  rw [hc]
/-- a world that meets the condition -/
noncomputable def laidWorld (os : Os) : World :=
  { World.holding Tryd.prog os ⟨#[], #[], []⟩ with heap := (World.holding Tryd.prog os ⟨#[], #[], []⟩).heap.modify 0 fun
      | .cells _ t frozen => .cells #[.int .u64 30, .int .u64 13787848793156543929, .int .u64 27, .int .u64 10723151780598845931, .int .u64 31, .int .u64 1] t frozen
      | o => o }
theorem laidWorld_met (os : Os) (args : Array Value) : laidMet Tryd.prog laidR ((laidWorld os).forCall (fun _ _ => 0) ⟨#[], args, []⟩).memory :=
  laidMet_of_run3 8 (by kernel_rfl) (by kernel_rfl) (by kernel_rfl)
end Go.Proofs.YtkccmmhofhaccaaDoor
namespace Go.Proofs.YtkccmmhofhaccaaDoor
open Go.RowKit
set_option linter.unusedSimpArgs false
set_option linter.unusedVariables false
set_option maxRecDepth 100000
abbrev zN : List Value := [.int .i64 0, .int .i64 0, .int .i64 0, .int .i64 0, .int .i64 0, .int .i64 0, .int .u32 0, .int .u32 0, .int .u32 0, .int .u64 0, .int .u64 0, .int .u64 0, .int .u64 0]
theorem zeroNtp : (Tryd.prog.info? 27).map (·.zero) = some (some (.agg zN.toArray)) := by kernel_rfl
theorem sizeI64 : (Tryd.prog.info? 3).map (·.size) = some 1 := by kernel_rfl
abbrev ntp0 : Value := .agg zN.toArray
theorem sizeNtp : (Tryd.prog.info? 27).map (·.size) = some 13 := by kernel_rfl
end Go.Proofs.YtkccmmhofhaccaaDoor
namespace Go.Proofs.YtkccmmhofhaccaaDoor
open Go.ChangeShapes Go.WideShapes Go.ChangeAt Go.RowKit Go.Joins Go.Deep
set_option linter.unusedSimpArgs false
set_option linter.unusedVariables false
set_option maxRecDepth 100000
theorem drew_size {w : World} {N : Nat} (h : N ≤ w.heap.size) : N ≤ w.drew.heap.size := h
section
variable {H : Type} {enc : TypeId × Value → H} {P : Program} {w : World} {base : Nat} {spare : Nat → Bool} {held : Bool}
theorem trod_fields {t : TypeId} {fs : Array Field} {fuel : Nat} {cs : List Value} {x : DataW H × List MemPlace} (ht : P.underlying t = some (.struct fs)) (h : DataW.trod enc P w base spare held fuel t cs = some x) :
    cs.length = P.cellsOf t ∧ ∀ (i : Nat) (f : Field), fs[i]? = some f → ∃ y n, DataW.trod enc P w base spare held n f.type ((cs.drop f.offset).take (P.cellsOf f.type)) = some y := by
  obtain ⟨xs, n, _, _, hl, hxl, hg⟩ := DataW.trod_struct ht h
  refine ⟨hl, fun i f hf => ?_⟩
  have hi : i < xs.length := by rw [hxl]; exact (Array.getElem?_eq_some_iff.1 hf).1
  exact ⟨xs[i], n, (hg i f hf).trans (List.getElem?_eq_getElem hi)⟩
/-- a struct by value: its cells -/
theorem open_struct {r : Reach} {b0 : Nat} {t : TypeId} {fs : Array Field} {v : Value} {d : DataW H} {p : List MemPlace} (hs : P.underlying t = some (.struct fs)) (hv : Value.okWide P w r b0 t v) (h : DataW.Trod enc P w base spare held t v d p) :
    ∃ (cs : List Value) (fuel : Nat) (x : DataW H × List MemPlace), v = .agg cs.toArray ∧ DataW.trod enc P w base spare held fuel t cs = some x := by
  obtain ⟨cs, rfl, hsz⟩ := okWide_struct hs hv
  obtain ⟨fuel, hf⟩ := h
  exact ⟨cs.toList, fuel, _, by simp, by simpa [Value.cells] using hf⟩
end
theorem cellsNtp : Tryd.prog.cellsOf 27 = 13 := by kernel_rfl
set_option maxRecDepth 100000 in
theorem ntp_cells {H : Type} {enc : TypeId × Value → H} {w : World} {base : Nat} {spare : Nat → Bool} {held : Bool} {fuel : Nat} {cs : List Value} {x : DataW H × List MemPlace} (h : DataW.trod enc Tryd.prog w base spare held fuel 27 cs = some x) :
    ∃ l v m st po pr rd rp id ref org rec xmt : Int, cs = [.int .i64 l, .int .i64 v, .int .i64 m, .int .i64 st, .int .i64 po, .int .i64 pr, .int .u32 rd, .int .u32 rp, .int .u32 id, .int .u64 ref, .int .u64 org, .int .u64 rec, .int .u64 xmt] ∧ (-9223372036854775808 ≤ l ∧ l ≤ 9223372036854775807) ∧ (-9223372036854775808 ≤ v ∧ v ≤ 9223372036854775807) ∧ (-9223372036854775808 ≤ m ∧ m ≤ 9223372036854775807) ∧ (-9223372036854775808 ≤ st ∧ st ≤ 9223372036854775807) ∧ (-9223372036854775808 ≤ po ∧ po ≤ 9223372036854775807) ∧ (-9223372036854775808 ≤ pr ∧ pr ≤ 9223372036854775807) ∧ (0 ≤ rd ∧ rd ≤ 4294967295) ∧ (0 ≤ rp ∧ rp ≤ 4294967295) ∧ (0 ≤ id ∧ id ≤ 4294967295) ∧ (0 ≤ ref ∧ ref ≤ 18446744073709551615) ∧ (0 ≤ org ∧ org ≤ 18446744073709551615) ∧ (0 ≤ rec ∧ rec ≤ 18446744073709551615) ∧ (0 ≤ xmt ∧ xmt ≤ 18446744073709551615) := by
  obtain ⟨hl, hf⟩ := trod_fields Tryd.underlying27 h
  rw [cellsNtp] at hl
  match cs, hl with
  | [c0, c1, c2, c3, c4, c5, c6, c7, c8, c9, c10, c11, c12], _ =>
    obtain ⟨y0, n0, h0⟩ := hf 0 _ rfl
    obtain ⟨l, e0, _, wf0⟩ := DataW.trod_int Tryd.underlying3 h0
    obtain ⟨y1, n1, h1⟩ := hf 1 _ rfl
    obtain ⟨v, e1, _, wf1⟩ := DataW.trod_int Tryd.underlying3 h1
    obtain ⟨y2, n2, h2⟩ := hf 2 _ rfl
    obtain ⟨m, e2, _, wf2⟩ := DataW.trod_int Tryd.underlying3 h2
    obtain ⟨y3, n3, h3⟩ := hf 3 _ rfl
    obtain ⟨st, e3, _, wf3⟩ := DataW.trod_int Tryd.underlying3 h3
    obtain ⟨y4, n4, h4⟩ := hf 4 _ rfl
    obtain ⟨po, e4, _, wf4⟩ := DataW.trod_int Tryd.underlying3 h4
    obtain ⟨y5, n5, h5⟩ := hf 5 _ rfl
    obtain ⟨pr, e5, _, wf5⟩ := DataW.trod_int Tryd.underlying3 h5
    obtain ⟨y6, n6, h6⟩ := hf 6 _ rfl
    obtain ⟨rd, e6, _, wf6⟩ := DataW.trod_int Tryd.underlying25 h6
    obtain ⟨y7, n7, h7⟩ := hf 7 _ rfl
    obtain ⟨rp, e7, _, wf7⟩ := DataW.trod_int Tryd.underlying25 h7
    obtain ⟨y8, n8, h8⟩ := hf 8 _ rfl
    obtain ⟨id, e8, _, wf8⟩ := DataW.trod_int Tryd.underlying25 h8
    obtain ⟨y9, n9, h9⟩ := hf 9 _ rfl
    obtain ⟨ref, e9, _, wf9⟩ := DataW.trod_int Tryd.underlying22 h9
    obtain ⟨y10, n10, h10⟩ := hf 10 _ rfl
    obtain ⟨org, e10, _, wf10⟩ := DataW.trod_int Tryd.underlying22 h10
    obtain ⟨y11, n11, h11⟩ := hf 11 _ rfl
    obtain ⟨rec, e11, _, wf11⟩ := DataW.trod_int Tryd.underlying22 h11
    obtain ⟨y12, n12, h12⟩ := hf 12 _ rfl
    obtain ⟨xmt, e12, _, wf12⟩ := DataW.trod_int Tryd.underlying22 h12
    have k1 : Tryd.prog.cellsOf 3 = 1 := by kernel_rfl
    have k2 : Tryd.prog.cellsOf 25 = 1 := by kernel_rfl
    have k3 : Tryd.prog.cellsOf 22 = 1 := by kernel_rfl
    simp [k1, k2, k3] at e0 e1 e2 e3 e4 e5 e6 e7 e8 e9 e10 e11 e12
    subst e0 e1 e2 e3 e4 e5 e6 e7 e8 e9 e10 e11 e12
    exact ⟨_, _, _, _, _, _, _, _, _, _, _, _, _, rfl, bounds_i64 wf0, bounds_i64 wf1, bounds_i64 wf2, bounds_i64 wf3, bounds_i64 wf4, bounds_i64 wf5, bounds_u32 wf6, bounds_u32 wf7, bounds_u32 wf8, bounds_u64 wf9, bounds_u64 wf10, bounds_u64 wf11, bounds_u64 wf12⟩
set_option maxRecDepth 100000 in
theorem open_ntp {H : Type} {enc : TypeId × Value → H} {w : World} {base b0 : Nat} {spare : Nat → Bool} {held : Bool} {r : Reach} {v : Value} {d : DataW H} {p : List MemPlace} (hv : Value.okWide Tryd.prog w r b0 27 v) (h : DataW.Trod enc Tryd.prog w base spare held 27 v d p) :
    ∃ l vv m st po pr rd rp id ref org rec xmt : Int, v = .agg #[.int .i64 l, .int .i64 vv, .int .i64 m, .int .i64 st, .int .i64 po, .int .i64 pr, .int .u32 rd, .int .u32 rp, .int .u32 id, .int .u64 ref, .int .u64 org, .int .u64 rec, .int .u64 xmt] ∧ (-9223372036854775808 ≤ l ∧ l ≤ 9223372036854775807) ∧ (-9223372036854775808 ≤ vv ∧ vv ≤ 9223372036854775807) ∧ (-9223372036854775808 ≤ m ∧ m ≤ 9223372036854775807) ∧ (-9223372036854775808 ≤ st ∧ st ≤ 9223372036854775807) ∧ (-9223372036854775808 ≤ po ∧ po ≤ 9223372036854775807) ∧ (-9223372036854775808 ≤ pr ∧ pr ≤ 9223372036854775807) ∧ (0 ≤ rd ∧ rd ≤ 4294967295) ∧ (0 ≤ rp ∧ rp ≤ 4294967295) ∧ (0 ≤ id ∧ id ≤ 4294967295) ∧ (0 ≤ ref ∧ ref ≤ 18446744073709551615) ∧ (0 ≤ org ∧ org ≤ 18446744073709551615) ∧ (0 ≤ rec ∧ rec ≤ 18446744073709551615) ∧ (0 ≤ xmt ∧ xmt ≤ 18446744073709551615) := by
  obtain ⟨cs, fuel, x, rfl, hx⟩ := open_struct Tryd.underlying27 hv h
  obtain ⟨a0, a1, a2, a3, a4, a5, a6, a7, a8, a9, a10, a11, a12, rfl, hb⟩ := ntp_cells hx
  exact ⟨a0, a1, a2, a3, a4, a5, a6, a7, a8, a9, a10, a11, a12, rfl, hb⟩
end Go.Proofs.YtkccmmhofhaccaaDoor
namespace Go.Proofs.YtkccmmhofhaccaaDoor
open Go.ChangeShapes Go.WideShapes Go.ChangeAt Go.RowKit Go.Joins
set_option linter.unusedSimpArgs false
set_option linter.unusedVariables false
set_option maxRecDepth 100000
/-- n rows of s cells each in a block below hi -/
def Sl (w : World) (hi : Nat) (A : Option Addr) (n s : Nat) (F : Nat → List Value) : Prop :=
  0 < n → ∃ b o, A = some ⟨b, o, none⟩ ∧ b < hi ∧ ∀ k, k < n → (F k).length = s ∧ w.rangeAt b (o + k * s) (F k)
theorem range_below {w w' : World} {b o B : Nat} {cs : List Value} (h : w.rangeAt b o cs) (hb : Below B w w') (h1 : b < B) : w'.rangeAt b o cs := fun j v hv => (hb.cell (p := ⟨b, o + j, none⟩) h1).trans (h j v hv)
theorem range_but {w w' : World} {b o g : Nat} {cs : List Value} (h : w.rangeAt b o cs) (hb : But g w w') (h1 : b ≠ g) : w'.rangeAt b o cs := fun j v hv => (World.cell?_of_block (hb.block b (World.block_lt_of_cell? w _ (h j v hv)) (by simpa using h1))).trans (h j v hv)
theorem range_cell {w : World} {b o : Nat} {cs : List Value} (h : w.rangeAt b o cs) (i : Nat) {v : Value} (hv : cs[i]? = some v) : w.cell? ⟨b, o + i, none⟩ = some v := h i v hv
theorem range_mid {w : World} {b o : Nat} {cs : List Value} (h : w.rangeAt b o cs) (i : Nat) (sub : List Value) (hs : (cs.drop i).take sub.length = sub) : w.rangeAt b (o + i) sub := fun j v hv => by
  have hj : j < sub.length := (List.getElem?_eq_some_iff.1 hv).1
  rw [← hs, List.getElem?_take, if_pos hj, List.getElem?_drop] at hv
  rw [Nat.add_assoc]
  exact h (i + j) v hv
section
variable {w w' : World} {hi n s : Nat} {A : Option Addr} {F : Nat → List Value}
theorem Sl.below {B : Nat} (h : Sl w hi A n s F) (hb : Below B w w') (h1 : hi ≤ B) : Sl w' hi A n s F := fun hn => by
  obtain ⟨b, o, e, h2, hc⟩ := h hn
  exact ⟨b, o, e, h2, fun k hk => ⟨(hc k hk).1, range_below (hc k hk).2 hb (by omega)⟩⟩
theorem Sl.less {m : Nat} (h : Sl w hi A n s F) (hm : m ≤ n) : Sl w hi A m s F := fun hn => by
  obtain ⟨b, o, e, h2, hc⟩ := h (by omega)
  exact ⟨b, o, e, h2, fun k hk => hc k (by omega)⟩
end
section
variable {H : Type} {enc : TypeId × Value → H} {P : Program}
theorem open_rows {W : World} {base : Nat} {v : Value} {d : DataW H} {ps : List MemPlace} {T E : TypeId} {s : Nat} (Pf : List Value → Prop) (ht : P.underlying T = some (.slice E)) (hc : P.cellsOf E = s) (hs : 0 < s)
    (hP : ∀ fuel cs x, DataW.trod enc P W 0 (fun _ => true) true fuel E cs = some x → Pf cs)
    (hval : Value.okWide P W .any base T v) (h1 : DataW.Trod enc P W 0 (fun _ => true) true T v d ps) :
    ∃ (A : Option Addr) (n c : Nat) (F : Nat → List Value), v = .slice A n c ∧ Sl W W.heap.size A n s F ∧ n ≤ c ∧ c ≤ 9223372036854775807 ∧ (A = none → n = 0 ∧ c = 0) ∧ (∀ k, k < n → Pf (F k)) := by
  obtain ⟨a1, len, cap, rfl⟩ := okWide_slice ht hval
  obtain ⟨fuel, hf⟩ := h1
  rcases Go.Deep.open_slice ht hf with ⟨hcs, hx⟩ | ⟨a, len', cap', m, n, D, Pl, hcs, _, hl, hm, hmm, hx, hcell⟩
  · simp [Value.cells] at hcs
    obtain ⟨rfl, rfl, rfl⟩ := hcs
    exact ⟨none, 0, 0, fun _ => [], rfl, fun h => absurd h (by omega), Nat.le_refl _, by omega, fun _ => ⟨rfl, rfl⟩, fun k hk => by omega⟩
  · simp [Value.cells] at hcs
    obtain ⟨rfl, rfl, rfl⟩ := hcs
    simp only [if_true] at hmm
    subst hmm
    rw [hc] at hcell
    obtain ⟨F, hF⟩ := Go.Deep.choose_lt (fun i hi => hcell i hi)
    refine ⟨some a, len, m, F, rfl, fun hp => ?_, hl, (by unfold maxLen at hm; exact hm), (fun h => by cases h), fun k hk => hP _ _ _ (hF k (by omega)).2⟩
    obtain ⟨ab, ao, spot⟩ := a
    obtain ⟨_, hlen, hcl⟩ := World.cells?_some (hF 0 (by omega)).1
    have h0 := hcl 0 hs
    rw [List.getElem?_eq_getElem (by omega)] at h0
    have hspot : spot = none := by simpa [Addr.add] using World.cell?_spot h0
    subst hspot
    refine ⟨ab, ao, rfl, ?_, fun k hk => ?_⟩
    · have := World.block_lt_of_cell? W _ h0
      simpa [ofAdd] using this
    · obtain ⟨_, hlen, hcl⟩ := World.cells?_some (hF k (by omega)).1
      refine ⟨hlen, fun j u hu => ?_⟩
      have hj : j < s := by rw [← hlen]; exact (List.getElem?_eq_some_iff.1 hu).1
      have := hcl j hj
      rw [ofAdd, ofAdd, hu] at this
      exact this
end
section
variable {P : Program} {ops : Array Oper} {rest : List Oper} {o : Oper} {a : Act} {w : World} {Q : Exit → Act → World → Prop}
/-- a struct is read where a range of cells is known -/
theorem wpl_loadr (hw : Region.wanted o (yielded ops a.tmps) = true) (T : TypeId) (x : Operand) (ho : o.op = .load T x) (b i : Nat) (hx : a.eval x = .pointer (some ⟨b, i, none⟩)) (sub : List Value) (hr : w.rangeAt b i sub) (d : TypeDesc)
    (hu : P.underlying T = some d) (hd : d.isRow = true) (n : Nat) (hi : (P.info? T).map (·.size) = some n) (hn : sub.length = n)
    (h : wpList P ops Q rest (a.put o.dst (.agg sub.toArray)) w) : wpList P ops Q (o :: rest) a w := by
  subst hn
  exact wpl_want hw fun K hK => wp_load_mid T x ho b i hx sub d hr hu hd hi (hK _ _ h)
/-- one cell is read where it is known -/
theorem wpl_loadc (hw : Region.wanted o (yielded ops a.tmps) = true) (T : TypeId) (x : Operand) (ho : o.op = .load T x) (b i : Nat) (hx : a.eval x = .pointer (some ⟨b, i, none⟩)) (v : Value) (hcell : w.cell? ⟨b, i, none⟩ = some v) (d : TypeDesc)
    (hu : P.underlying T = some d) (hd : d.isRow = false)
    (h : wpList P ops Q rest (a.put o.dst v) w) : wpList P ops Q (o :: rest) a w := by
  refine wpl_want hw fun K hK => ?_
  have hagg : (isAgg T).run P w = .ok false w := by
    unfold isAgg
    rw [Sem.run_bind, run_underlying hu w]
    cases d <;> simp_all
  have hr : (Instr.loadAt T (.pointer (some ⟨b, i, none⟩))).run P w = .ok v w := by
    simp [Instr.loadAt, Instr.sureAddr, loadVar, Sem.run_bind, hagg, hcell, go_sem]
  unfold Oper.wp execOp
  simp only [ho, hx, Sem.run_bind, hr, Result.andThen_ok, Sem.run_pure]
  exact hK _ _ h
end
end Go.Proofs.YtkccmmhofhaccaaDoor
namespace Go.Proofs.YtkccmmhofhaccaaDoor
open Go.ChangeShapes Go.WideShapes Go.ChangeAt Go.RowKit Go.Joins
set_option linter.unusedSimpArgs false
set_option linter.unusedVariables false
set_option maxRecDepth 100000
theorem cellsU8 : Tryd.prog.cellsOf 5 = 1 := by kernel_rfl
theorem bytesU8 : Tryd.prog.bytesOf 5 = 1 := by kernel_rfl
section
variable {H : Type} {enc : TypeId × Value → H}
theorem open_bs {W : World} {base : Nat} {v : Value} {d : DataW H} {ps : List MemPlace} (hval : Value.okWide Tryd.prog W .any base 32 v) (h1 : DataW.Trod enc Tryd.prog W 0 (fun _ => true) true 32 v d ps) :
    ∃ (A : Option Addr) (n c : Nat) (l : List Int), v = .slice A n c ∧ l.length = n ∧ Bs W 0 W.heap.size A l ∧ n ≤ c ∧ (A = none → n = 0 ∧ c = 0) ∧
      (∀ {ts : List TypeId} {ds : List (DataW H)}, (DataW.weightsEach Tryd.prog ts ds).all (· ≤ reachBytes) = true → ∀ {j : Nat}, ts[j]? = some 32 → ds[j]? = some d → c ≤ 140737488351232) := by
  obtain ⟨a1, len, cap, rfl⟩ := okWide_slice Tryd.underlying32 hval
  obtain ⟨fuel, hf⟩ := h1
  rcases open_ints Tryd.underlying32 Tryd.underlying5 cellsU8 hf with ⟨hcs, hx⟩ | ⟨a, len', cap', zs, hcs, _, hl, hm, hz, hx, hcell, hwz⟩
  · simp [Value.cells] at hcs
    obtain ⟨rfl, rfl, rfl⟩ := hcs
    exact ⟨none, 0, 0, [], rfl, rfl, Bs.nil, Nat.le_refl _, fun _ => ⟨rfl, rfl⟩, fun _ _ _ _ => by omega⟩
  · simp [Value.cells] at hcs
    obtain ⟨rfl, rfl, rfl⟩ := hcs
    simp only [Prod.mk.injEq] at hx
    obtain ⟨rfl, rfl⟩ := hx
    simp only [if_true] at hz
    refine ⟨some a, len, cap, zs.take len, rfl, by rw [List.length_take]; omega, ?_, hl, (by intro h; cases h), fun {ts ds} hsz {j} ht hd => ?_⟩
    · refine ⟨fun x hx => ?_, fun hp => ?_⟩
      · exact bounds_u8 (hwz x (List.mem_of_mem_take hx))
      · rw [List.length_take] at hp
        obtain ⟨ab, ao, spot⟩ := a
        have h0 := hcell 0 (by omega)
        have hspot : spot = none := by simpa [Addr.add] using World.cell?_spot h0
        subst hspot
        refine ⟨ab, ao, rfl, Nat.zero_le _, ?_, fun k hk => ?_⟩
        · have := World.block_lt_of_cell? W _ h0
          simpa [ofAdd] using this
        · rw [List.length_take] at hk
          have hck := hcell k (by omega)
          rw [ofAdd] at hck
          rw [hck]
          have hkl : k < len := by omega
          simp [atB, List.getD_eq_getElem?_getD, List.getElem?_take, hkl]
    · have h := sized_slice hsz ht hd Tryd.underlying32
      rw [bytesU8] at h
      simp [lits, reachBytes] at h
      omega
end
end Go.Proofs.YtkccmmhofhaccaaDoor
namespace Go.Proofs.YtkccmmhofhaccaaDoor
open Go.ChangeShapes Go.WideShapes Go.ChangeAt Go.RowKit Go.Joins
set_option linter.unusedSimpArgs false
set_option linter.unusedVariables false
set_option maxRecDepth 100000
/-- the kind and the bytes of field k -/
def kdL (L : List (Int × List Int)) (k : Nat) : Int := (L.getD k (0, [])).1
def dtL (L : List (Int × List Int)) (k : Nat) : List Int := (L.getD k (0, [])).2
/-- a field's two cells, and its bytes in blocks below hi -/
def Xf (w : World) (hi b o : Nat) (kd : Int) (dt : List Int) : Prop :=
  ∃ A c, w.cell? ⟨b, o, none⟩ = some (.int .i64 kd) ∧ w.cell? ⟨b, o + 1, none⟩ = some (.slice A dt.length c) ∧ Bs w 0 hi A dt ∧ dt.length ≤ c ∧ c ≤ 9223372036854775807 ∧ (A = none → dt.length = 0 ∧ c = 0)
/-- a slice address of the fields L, all in blocks below hi -/
def Xs (w : World) (hi : Nat) (A : Option Addr) (L : List (Int × List Int)) : Prop :=
  0 < L.length → ∃ b o, A = some ⟨b, o, none⟩ ∧ b < hi ∧ ∀ k, k < L.length → Xf w hi b (o + k * 2) (kdL L k) (dtL L k)
section
variable {w w' : World} {hi hi' b o B : Nat} {A : Option Addr} {L : List (Int × List Int)} {kd : Int} {dt : List Int}
theorem Xf.below (h : Xf w hi b o kd dt) (hb : Below B w w') (h1 : hi ≤ B) (h2 : b < B) : Xf w' hi b o kd dt := by
  obtain ⟨A, c, c0, c1, hB, h3, h4, h5⟩ := h
  exact ⟨A, c, kept_cell hb c0 h2, kept_cell hb c1 h2, hB.below hb h1, h3, h4, h5⟩
theorem Xf.wide (h : Xf w hi b o kd dt) (h1 : hi ≤ hi') : Xf w hi' b o kd dt := by
  obtain ⟨A, c, c0, c1, hB, h3, h4, h5⟩ := h
  exact ⟨A, c, c0, c1, hB.wide (Nat.le_refl _) h1, h3, h4, h5⟩
theorem Xs.below (h : Xs w hi A L) (hb : Below B w w') (h1 : hi ≤ B) : Xs w' hi A L := fun hn => by
  obtain ⟨b, o, e, h2, hc⟩ := h hn
  exact ⟨b, o, e, h2, fun k hk => (hc k hk).below hb h1 (by omega)⟩
theorem Xs.wide (h : Xs w hi A L) (h1 : hi ≤ hi') : Xs w hi' A L := fun hn => by
  obtain ⟨b, o, e, h2, hc⟩ := h hn
  exact ⟨b, o, e, by omega, fun k hk => (hc k hk).wide h1⟩
theorem Xs.take (h : Xs w hi A L) (m : Nat) : Xs w hi A (L.take m) := fun hn => by
  rw [List.length_take] at hn
  obtain ⟨b, o, e, h2, hc⟩ := h (by omega)
  refine ⟨b, o, e, h2, fun k hk => ?_⟩
  rw [List.length_take] at hk
  have e1 : (L.take m).getD k (0, []) = L.getD k (0, []) := by
    rw [List.getD_eq_getElem?_getD, List.getD_eq_getElem?_getD, List.getElem?_take, if_pos (by omega)]
  unfold kdL dtL
  rw [e1]
  exact hc k (by omega)
theorem Xs.nil : Xs w hi A [] := fun h => by simp at h
end
theorem weights_elem {H : Type} {P : Program} {t e : TypeId} {d : DataW H} {elems spare : List (DataW H)} (hu : P.underlying t = some (.slice e)) (hd : d ∈ elems) {n : Nat} (hn : n ∈ d.weights P e) : n ∈ (DataW.slice elems spare).weights P t := by
  have all : ∀ l : List (DataW H), d ∈ l → n ∈ DataW.weightsAll P e l := fun l => by
    induction l with
    | nil => intro h; cases h
    | cons x r ih =>
      intro h
      rw [DataW.weightsAll]
      rcases List.mem_cons.1 h with rfl | h
      · exact List.mem_append_left _ hn
      · exact List.mem_append_right _ (ih h)
  rw [DataW.weights, hu]
  simp only [List.mem_cons, List.mem_append]
  exact .inr (.inl (all _ hd))
theorem cellsExt : Tryd.prog.cellsOf 69 = 2 := by kernel_rfl
theorem cellsI64 : Tryd.prog.cellsOf 3 = 1 := by kernel_rfl
theorem cellsSl8 : Tryd.prog.cellsOf 32 = 1 := by kernel_rfl
theorem sizeExt : (Tryd.prog.info? 69).map (·.size) = some 2 := by kernel_rfl
theorem zeroExt : (Tryd.prog.info? 69).map (·.zero) = some (some (.agg #[.int .i64 0, .slice none 0 0])) := by kernel_rfl
section
variable {H : Type} {enc : TypeId × Value → H}
/-- a byte slice that is a cell -/
theorem cell_bs {W : World} {base : Nat} {spare : Nat → Bool} {fuel : Nat} {v : Value} {x : DataW H × List MemPlace} (hs : ∀ b, spare b = true) (hf : DataW.trod enc Tryd.prog W base spare true fuel 32 [v] = some x) :
    ∃ (A : Option Addr) (n c : Nat) (l : List Int), v = .slice A n c ∧ l.length = n ∧ Bs W 0 W.heap.size A l ∧ n ≤ c ∧ c ≤ 9223372036854775807 ∧ (A = none → n = 0 ∧ c = 0) ∧ (0 < c → c ∈ x.1.weights Tryd.prog 32) := by
  rcases open_ints Tryd.underlying32 Tryd.underlying5 cellsU8 hf with ⟨hcs, hx⟩ | ⟨a, len', cap', zs, hcs, _, hl, hm, hz, hx, hcell, hwz⟩
  · simp at hcs
    subst hcs
    exact ⟨none, 0, 0, [], rfl, rfl, Bs.nil, Nat.le_refl _, by omega, fun _ => ⟨rfl, rfl⟩, fun h => absurd h (by omega)⟩
  · simp at hcs
    subst hcs
    rw [hs] at hz
    simp only [if_true] at hz
    refine ⟨some a, len', cap', zs.take len', rfl, by rw [List.length_take]; omega, ?_, hl, by unfold maxLen at hm; exact hm, (fun h => by cases h), fun hc => ?_⟩
    · refine ⟨fun y hy => ?_, fun hp => ?_⟩
      · exact bounds_u8 (hwz y (List.mem_of_mem_take hy))
      · rw [List.length_take] at hp
        obtain ⟨ab, ao, spot⟩ := a
        have h0 := hcell 0 (by omega)
        have hspot : spot = none := by simpa [Addr.add] using World.cell?_spot h0
        subst hspot
        refine ⟨ab, ao, rfl, Nat.zero_le _, ?_, fun k hk => ?_⟩
        · have := World.block_lt_of_cell? W _ h0
          simpa [ofAdd] using this
        · rw [List.length_take] at hk
          have hck := hcell k (by omega)
          rw [ofAdd] at hck
          rw [hck]
          have hkl : k < len' := by omega
          simp [atB, List.getD_eq_getElem?_getD, List.getElem?_take, hkl]
    · rw [hx]
      rw [DataW.weights, Tryd.underlying32]
      simp only [List.mem_cons]
      left
      rw [bytesU8]
      simp [lits]
      omega
end
end Go.Proofs.YtkccmmhofhaccaaDoor
