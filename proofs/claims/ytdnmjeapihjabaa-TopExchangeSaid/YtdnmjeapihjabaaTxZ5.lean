/- How a law's statement follows from its walk: the reading of the arguments stands behind the call as before, where the call has made new blocks only. Structs by value, opened field by field, whatever their fields; a header opened. What sample.Distance, sample.Bounds, sample.isTime and sample.isTol compute. A region that draws its order, each of whose operations yields one value in every world that meets S, and leaves a world that meets S: then one order stands for all. No function of the program occurs here. A region that draws its order, where two operations may come up: both ways; one cell written at an operation by itself. No function of the program occurs here. A variable made, and a whole block written, at an operation by itself, in a region that draws its order. No function of the program occurs here. Small lemmas about worlds for regions that draw their order. No function of the program occurs here. -/
import Derived.Test.YtdnmjeapihjabaaTxZ1
import Derived.ShutString
import Derived.Lib.SmallJoins
import Derived.Carry
import Derived.Test.YtdnmjeapihjabaaTxZ3
import Derived.Deep.Fields
import Derived.OpenShut
import Derived.Test.YtdnmjeapihjabaaTxZ4
import Derived.Deep.RegionHeld3
import Derived.Test.YtdnmjeapihjabaaTxZ2
namespace Go.Proofs.Ytdnmjeapihjabaa
open Go.ChangeShapes Go.WideShapes Go.ChangeAt Go.RowKit Go.Joins
set_option linter.unusedSimpArgs false
set_option linter.unusedVariables false
set_option maxRecDepth 100000
theorem own : ownKnob Try.prog.godebug = none := by kernel_rfl
theorem laidOut : laidOutB Try.prog = true := by kernel_rfl
section
variable {H : Type} {enc : TypeId × Value → H} {P : Program}
theorem below_trodAll (hl : laidOutB P = true) {W W' : World} (hb : Below W.heap.size W W') (sp : Nat → Bool) : ∀ (ts : List TypeId) (vs : List Value) (ds : List (DataW H)) (ps : List MemPlace),
    (∀ t ∈ ts, P.readableRec t = true ∧ t < P.types.size) → DataW.TrodAll enc P W 0 (fun _ => true) true ts vs ds ps → (∀ x ∈ ps, x.block < W.heap.size) → (∀ x ∈ ps, sp x.block = true) → DataW.TrodAll enc P W' 0 sp true ts vs ds ps
  | [], vs, ds, ps, _, h, _, _ => by
      obtain ⟨rfl, rfl, rfl⟩ := trodAll_nil h
      exact trodAll_mk0
  | t :: ts, vs, ds, ps, hr, h, hlt, hsp => by
      obtain ⟨v, vs', d, ds', p, q, rfl, rfl, rfl, h0, r0⟩ := trodAll_cons h
      obtain ⟨hr1, hr2⟩ := hr t (by simp)
      exact trodAll_cons_mk (WideElems.Trod_stays hl hr1 hr2 h0 (fun x hx => hb.same (hlt x (by simp [hx]))) (fun x hx => hsp x (by simp [hx])))
        (below_trodAll hl hb sp ts vs' ds' q (fun t ht => hr t (by simp [ht])) r0 (fun x hx => hlt x (by simp [hx])) (fun x hx => hsp x (by simp [hx])))
/-- The post of a law: it returned true; of what was there nothing has turned. -/
theorem law_post {f : Func} {s : ChangeSpec} {apart fresh handsOn again : Bool} {W W' : World} {args : Array Value} {ds : List (DataW H)} {before : List MemPlace} {tb : TypeId} (hl : laidOutB P = true) (hbool : P.underlying tb = some .bool)
    (hrt : f.resultTypes = #[tb]) (hpar : ∀ t ∈ f.params.toList, P.readableRec t = true ∧ t < P.types.size) (hvars : s.vars = [])
    (h1 : (s.fn H ds).results = [.lit (.bool true)]) (h2 : (s.fn H ds).args = ds) (h3 : (s.fn H ds).vars = [])
    (hW : DataW.Whole enc P f.params.toList s.vars apart W args.toList ds [] before) (hb : Below W.heap.size W W') : s.post enc P f apart fresh handsOn again W args (.bool true) W' := by
  have hlt : ∀ x ∈ before, x.block < W.heap.size := fun x hx => hW.lt x hx
  have hW' := hW
  obtain ⟨p, q, hA, hV, hp, hz, hn⟩ := hW'
  rw [hvars] at hV
  obtain ⟨_, hq⟩ := trodVars_none hV
  rw [hq, List.append_nil] at hp
  have args' : ∀ sp : Nat → Bool, (∀ x ∈ before, sp x.block = true) → DataW.TrodAll enc P W' 0 sp true f.params.toList args.toList ds before := fun sp hsp => by
    rw [hp] at hlt hsp ⊢
    exact below_trodAll hl hb sp _ _ _ _ hpar hA hlt hsp
  have res' : ∀ (b : Nat) (sp : Nat → Bool) (hd : Bool), DataW.TrodAll enc P W' b sp hd f.resultTypes.toList ((Value.bool true).resultList f.resultTypes.size) [.lit (.bool true)] [] := fun b sp hd => by
    rw [hrt]
    exact trodAll_mk1 (shut_bool hbool true)
  have vars' : ∀ sp : Nat → Bool, DataW.TrodVars enc P W' sp s.vars [] [] := fun sp => by rw [hvars]; rfl
  have e0 : ds ++ [] = ds := List.append_nil ds
  refine ⟨ds, [], before, [], before, [], hW, ?_, ?_, ?_, ?_, ?_⟩
  · rw [e0, h1]; exact res' _ _ _
  · rw [e0, h2]; exact args' _ (fun x hx => by simpa using hlt x hx)
  · rw [e0, h3]; exact vars' _
  · exact World.keptBut_mono (fun x hx => ⟨hx, Or.inr (Or.inl hx)⟩) (hb.frame (· ∈ before))
  · intro _
    refine ⟨?_, [.lit (.bool true)] ++ ds, [], before, ⟨before, [], ?_, vars' _, by simp, ?_, fun ha => hn ha⟩, fun x hx _ => hx⟩
    · exact ok_one hrt rfl (okWide_bool_mk hbool true)
    · exact trodAll_append (args' (fun _ => true) (fun _ _ => rfl)) (res' _ _ _)
    · intro b off hx
      rw [hb.frozen (hlt _ hx)]
      exact hz b off hx
end
end Go.Proofs.Ytdnmjeapihjabaa
namespace Go.Proofs.Ytdnmjeapihjabaa
open Go.ChangeShapes Go.WideShapes Go.ChangeAt Go.RowKit Go.Joins Go.Deep
set_option linter.unusedSimpArgs false
set_option linter.unusedVariables false
set_option maxRecDepth 100000
theorem drew_size {w : World} {N : Nat} (h : N ≤ w.heap.size) : N ≤ w.drew.heap.size := h
section
variable {H : Type} {enc : TypeId × Value → H} {P : Program} {w : World} {base : Nat} {spare : Nat → Bool} {held : Bool}
theorem trod_fields {t : TypeId} {fs : Array Field} {fuel : Nat} {cs : List Value} {x : DataW H × List MemPlace} (ht : P.underlying t = some (.struct fs)) (h : DataW.trod enc P w base spare held fuel t cs = some x) :
    cs.length = P.cellsOf t ∧ ∀ (i : Nat) (f : Field), fs[i]? = some f → ∃ y n, DataW.trod enc P w base spare held n f.type ((cs.drop f.offset).take (P.cellsOf f.type)) = some y := by
  obtain ⟨xs, n, _, _, hl, hxl, hg⟩ := DataW.trod_struct ht h
  refine ⟨hl, fun i f hf => ?_⟩
  have hi : i < xs.length := by rw [hxl]; exact (Array.getElem?_eq_some_iff.1 hf).1
  exact ⟨xs[i], n, (hg i f hf).trans (List.getElem?_eq_getElem hi)⟩
/-- a struct by value: its cells -/
theorem open_struct {r : Reach} {b0 : Nat} {t : TypeId} {fs : Array Field} {v : Value} {d : DataW H} {p : List MemPlace} (hs : P.underlying t = some (.struct fs)) (hv : Value.okWide P w r b0 t v) (h : DataW.Trod enc P w base spare held t v d p) :
    ∃ (cs : List Value) (fuel : Nat) (x : DataW H × List MemPlace), v = .agg cs.toArray ∧ DataW.trod enc P w base spare held fuel t cs = some x := by
  obtain ⟨cs, rfl, hsz⟩ := okWide_struct hs hv
  obtain ⟨fuel, hf⟩ := h
  exact ⟨cs.toList, fuel, _, by simp, by simpa [Value.cells] using hf⟩
end
theorem cellsNtp : Try.prog.cellsOf 29 = 13 := by kernel_rfl
set_option maxRecDepth 100000 in
theorem ntp_cells {H : Type} {enc : TypeId × Value → H} {w : World} {base : Nat} {spare : Nat → Bool} {held : Bool} {fuel : Nat} {cs : List Value} {x : DataW H × List MemPlace} (h : DataW.trod enc Try.prog w base spare held fuel 29 cs = some x) :
    ∃ l v m st po pr rd rp id ref org rec xmt : Int, cs = [.int .i64 l, .int .i64 v, .int .i64 m, .int .i64 st, .int .i64 po, .int .i64 pr, .int .u32 rd, .int .u32 rp, .int .u32 id, .int .u64 ref, .int .u64 org, .int .u64 rec, .int .u64 xmt] ∧ (-9223372036854775808 ≤ l ∧ l ≤ 9223372036854775807) ∧ (-9223372036854775808 ≤ v ∧ v ≤ 9223372036854775807) ∧ (-9223372036854775808 ≤ m ∧ m ≤ 9223372036854775807) ∧ (-9223372036854775808 ≤ st ∧ st ≤ 9223372036854775807) ∧ (-9223372036854775808 ≤ po ∧ po ≤ 9223372036854775807) ∧ (-9223372036854775808 ≤ pr ∧ pr ≤ 9223372036854775807) ∧ (0 ≤ rd ∧ rd ≤ 4294967295) ∧ (0 ≤ rp ∧ rp ≤ 4294967295) ∧ (0 ≤ id ∧ id ≤ 4294967295) ∧ (0 ≤ ref ∧ ref ≤ 18446744073709551615) ∧ (0 ≤ org ∧ org ≤ 18446744073709551615) ∧ (0 ≤ rec ∧ rec ≤ 18446744073709551615) ∧ (0 ≤ xmt ∧ xmt ≤ 18446744073709551615) := by
  obtain ⟨hl, hf⟩ := trod_fields Try.underlying29 h
  rw [cellsNtp] at hl
  match cs, hl with
  | [c0, c1, c2, c3, c4, c5, c6, c7, c8, c9, c10, c11, c12], _ =>
    obtain ⟨y0, n0, h0⟩ := hf 0 _ rfl
    obtain ⟨l, e0, _, wf0⟩ := DataW.trod_int Try.underlying3 h0
    obtain ⟨y1, n1, h1⟩ := hf 1 _ rfl
    obtain ⟨v, e1, _, wf1⟩ := DataW.trod_int Try.underlying3 h1
    obtain ⟨y2, n2, h2⟩ := hf 2 _ rfl
    obtain ⟨m, e2, _, wf2⟩ := DataW.trod_int Try.underlying3 h2
    obtain ⟨y3, n3, h3⟩ := hf 3 _ rfl
    obtain ⟨st, e3, _, wf3⟩ := DataW.trod_int Try.underlying3 h3
    obtain ⟨y4, n4, h4⟩ := hf 4 _ rfl
    obtain ⟨po, e4, _, wf4⟩ := DataW.trod_int Try.underlying3 h4
    obtain ⟨y5, n5, h5⟩ := hf 5 _ rfl
    obtain ⟨pr, e5, _, wf5⟩ := DataW.trod_int Try.underlying3 h5
    obtain ⟨y6, n6, h6⟩ := hf 6 _ rfl
    obtain ⟨rd, e6, _, wf6⟩ := DataW.trod_int Try.underlying27 h6
    obtain ⟨y7, n7, h7⟩ := hf 7 _ rfl
    obtain ⟨rp, e7, _, wf7⟩ := DataW.trod_int Try.underlying27 h7
    obtain ⟨y8, n8, h8⟩ := hf 8 _ rfl
    obtain ⟨id, e8, _, wf8⟩ := DataW.trod_int Try.underlying27 h8
    obtain ⟨y9, n9, h9⟩ := hf 9 _ rfl
    obtain ⟨ref, e9, _, wf9⟩ := DataW.trod_int Try.underlying24 h9
    obtain ⟨y10, n10, h10⟩ := hf 10 _ rfl
    obtain ⟨org, e10, _, wf10⟩ := DataW.trod_int Try.underlying24 h10
    obtain ⟨y11, n11, h11⟩ := hf 11 _ rfl
    obtain ⟨rec, e11, _, wf11⟩ := DataW.trod_int Try.underlying24 h11
    obtain ⟨y12, n12, h12⟩ := hf 12 _ rfl
    obtain ⟨xmt, e12, _, wf12⟩ := DataW.trod_int Try.underlying24 h12
    have k1 : Try.prog.cellsOf 3 = 1 := by kernel_rfl
    have k2 : Try.prog.cellsOf 27 = 1 := by kernel_rfl
    have k3 : Try.prog.cellsOf 24 = 1 := by kernel_rfl
    simp [k1, k2, k3] at e0 e1 e2 e3 e4 e5 e6 e7 e8 e9 e10 e11 e12
    subst e0 e1 e2 e3 e4 e5 e6 e7 e8 e9 e10 e11 e12
    exact ⟨_, _, _, _, _, _, _, _, _, _, _, _, _, rfl, bounds_i64 wf0, bounds_i64 wf1, bounds_i64 wf2, bounds_i64 wf3, bounds_i64 wf4, bounds_i64 wf5, bounds_u32 wf6, bounds_u32 wf7, bounds_u32 wf8, bounds_u64 wf9, bounds_u64 wf10, bounds_u64 wf11, bounds_u64 wf12⟩
set_option maxRecDepth 100000 in
theorem open_ntp {H : Type} {enc : TypeId × Value → H} {w : World} {base b0 : Nat} {spare : Nat → Bool} {held : Bool} {r : Reach} {v : Value} {d : DataW H} {p : List MemPlace} (hv : Value.okWide Try.prog w r b0 29 v) (h : DataW.Trod enc Try.prog w base spare held 29 v d p) :
    ∃ l vv m st po pr rd rp id ref org rec xmt : Int, v = .agg #[.int .i64 l, .int .i64 vv, .int .i64 m, .int .i64 st, .int .i64 po, .int .i64 pr, .int .u32 rd, .int .u32 rp, .int .u32 id, .int .u64 ref, .int .u64 org, .int .u64 rec, .int .u64 xmt] ∧ (-9223372036854775808 ≤ l ∧ l ≤ 9223372036854775807) ∧ (-9223372036854775808 ≤ vv ∧ vv ≤ 9223372036854775807) ∧ (-9223372036854775808 ≤ m ∧ m ≤ 9223372036854775807) ∧ (-9223372036854775808 ≤ st ∧ st ≤ 9223372036854775807) ∧ (-9223372036854775808 ≤ po ∧ po ≤ 9223372036854775807) ∧ (-9223372036854775808 ≤ pr ∧ pr ≤ 9223372036854775807) ∧ (0 ≤ rd ∧ rd ≤ 4294967295) ∧ (0 ≤ rp ∧ rp ≤ 4294967295) ∧ (0 ≤ id ∧ id ≤ 4294967295) ∧ (0 ≤ ref ∧ ref ≤ 18446744073709551615) ∧ (0 ≤ org ∧ org ≤ 18446744073709551615) ∧ (0 ≤ rec ∧ rec ≤ 18446744073709551615) ∧ (0 ≤ xmt ∧ xmt ≤ 18446744073709551615) := by
  obtain ⟨cs, fuel, x, rfl, hx⟩ := open_struct Try.underlying29 hv h
  obtain ⟨a0, a1, a2, a3, a4, a5, a6, a7, a8, a9, a10, a11, a12, rfl, hb⟩ := ntp_cells hx
  exact ⟨a0, a1, a2, a3, a4, a5, a6, a7, a8, a9, a10, a11, a12, rfl, hb⟩
end Go.Proofs.Ytdnmjeapihjabaa
namespace Go.Proofs.Ytdnmjeapihjabaa
open Go.RowKit
set_option linter.unusedSimpArgs false
set_option linter.unusedVariables false
set_option maxRecDepth 100000
abbrev smL (o d p a : Int) : List Value := [.int .i64 o, .int .i64 d, .int .i64 p, .int .i64 a]
theorem sizeSamp : (Try.prog.info? 54).map (·.size) = some 4 := by kernel_rfl
theorem sizeIvl : (Try.prog.info? 38).map (·.size) = some 2 := by kernel_rfl
theorem zeroIvl : (Try.prog.info? 38).map (·.zero) = some (some (.agg #[.int .i64 0, .int .i64 0])) := by kernel_rfl
abbrev ilL (a b : Int) : List Value := [.int .i64 a, .int .i64 b]
theorem cells2b {w : World} {g : Nat} {t : TypeId} {a0 a1 : Value} (h : Blk w g t [a0, a1]) : w.cell? ⟨g, 0, none⟩ = some a0 ∧ w.cell? ⟨g, 1, none⟩ = some a1 := ⟨h.cell rfl, h.cell rfl⟩
theorem cells4b {w : World} {g : Nat} {t : TypeId} {a0 a1 a2 a3 : Value} (h : Blk w g t [a0, a1, a2, a3]) : w.cell? ⟨g, 0, none⟩ = some a0 ∧ w.cell? ⟨g, 1, none⟩ = some a1 ∧ w.cell? ⟨g, 2, none⟩ = some a2 ∧ w.cell? ⟨g, 3, none⟩ = some a3 := ⟨h.cell rfl, h.cell rfl, h.cell rfl, h.cell rfl⟩
set_option maxHeartbeats 400000 in
theorem isTime_any (t : Int) (w : World) :
    Calls Try.prog 38 #[.int .i64 t] w fun e w' => e = .returned (.bool (decide (-4503599627370496 ≤ t ∧ t ≤ 4503599627370496))) ∧ w = w' := by
  by_cases h1 : -4503599627370496 ≤ t <;> by_cases h2 : t ≤ 4503599627370496
  all_goals
    go_enter Try.func38, Try.ntmps38
    go_wp2
    go_ret
    exact ⟨by simp [*], rfl⟩
set_option maxHeartbeats 400000 in
theorem isTol_z (w : World) :
    Calls Try.prog 39 #[.int .i64 0] w fun e w' => e = .returned (.bool true) ∧ w = w' := by
  go_enter Try.func39, Try.ntmps39
  go_wp2
  go_ret
  exact ⟨rfl, rfl⟩
set_option maxHeartbeats 1000000 in
theorem sdist_ok (o d p a : Int) (w : World) (h : schk o d p a = 0) :
    Calls Try.prog 17 #[.agg (smL o d p a).toArray] w fun e w' => e = .returned (.int .i64 ((d + 1) / 2 + p)) ∧ Below w.heap.size w w' := by
  obtain ⟨k1, k2, k3, k4, k5, k6, k7, k8⟩ := schk_ok h
  have hK := fun W => schk_any o d p a W
  rw [h] at hK
  have hC := fun W => ceil2_any d W (by omega) (by omega)
  have hw : IntKind.i64.wrap ((d + 1) / 2 + p) = (d + 1) / 2 + p := IntWalk.i64_in _ (by omega)
  clear h
  go_enter Try.func17, Try.ntmps17
  go_wp2_with (first
    | (refine wpl_box (by rfl) 54 _ (by rfl) _ (smL o d p a) (by rfl) rfl ?_; intro w1 P1 s1 b1)
    | (refine wpl_load (by rfl) 54 _ (by rfl) w.heap.size (by rfl) 54 _ P1 _ Try.underlying54 rfl _ sizeSamp (by rfl) ?_)
    | (go_at_call 42; ((with_reducible refine (hK _).mono ?_); rintro e w2 ⟨rfl, b2⟩; (have P2 := P1.below b2 (by omega)); (have z2 := b2.size)))
    | (refine wpl_loadf (by rfl) 3 _ (by rfl) w.heap.size 1 (by rfl) _ _ P2 _ rfl _ Try.underlying3 rfl ?_)
    | (go_at_call 47; ((with_reducible refine (hC _).mono ?_); rintro e w3 ⟨rfl, b3⟩; (have P3 := P2.below b3 (by omega)); (have z3 := b3.size)))
    | (refine wpl_loadf (by rfl) 3 _ (by rfl) w.heap.size 2 (by rfl) _ _ P3 _ rfl _ Try.underlying3 rfl ?_))
  go_ret
  exact ⟨rfl, (b1.trans (b2.mono (by omega))).trans (b3.mono (by omega))⟩
set_option maxHeartbeats 1000000 in
theorem sbounds_ok (o d p a : Int) (w : World) (h : schk o d p a = 0) :
    Calls Try.prog 14 #[.agg (smL o d p a).toArray] w fun e w' => e = .returned (.agg (ilL (o - ((d + 1) / 2 + p)) (o + ((d + 1) / 2 + p))).toArray) ∧ Below w.heap.size w w' := by
  obtain ⟨k1, k2, k3, k4, k5, k6, k7, k8⟩ := schk_ok h
  have hK := fun W => schk_any o d p a W
  have hD := fun W => sdist_ok o d p a W h
  rw [h] at hK
  obtain ⟨D, hDD⟩ : ∃ D, D = (d + 1) / 2 + p := ⟨_, rfl⟩
  have hb : 0 ≤ D ∧ D ≤ 13510798882111489 := by omega
  rw [← hDD] at hD ⊢
  clear hDD h
  have hw : IntKind.i64.wrap (o - D) = o - D := IntWalk.i64_in _ (by omega)
  have hw' : IntKind.i64.wrap (o + D) = o + D := IntWalk.i64_in _ (by omega)
  go_enter Try.func14, Try.ntmps14
  go_wp2_with (first
    | (refine wpl_box (by rfl) 54 _ (by rfl) _ (smL o d p a) (by rfl) rfl ?_; intro w1 P1 s1 b1)
    | ((refine wpl_alloc (by rfl) 38 (by rfl) (.agg (ilL 0 0).toArray) (ilL 0 0) zeroIvl rfl ?_; intro w2 J2 s2 b2); (have P2 := P1.below b2 (by omega)))
    | (refine wpl_load (by rfl) 54 _ (by rfl) w.heap.size (by rfl) 54 _ P2 _ Try.underlying54 rfl _ sizeSamp (by rfl) ?_)
    | (go_at_call 42; ((with_reducible refine (hK _).mono ?_); rintro e w3 ⟨rfl, b3⟩; (have P3 := P2.below b3 (by omega)); (have J3 := J2.below b3 (by omega)); (have z3 := b3.size)))
    | (refine wpl_load (by rfl) 54 _ (by rfl) w.heap.size (by rfl) 54 _ P3 _ Try.underlying54 rfl _ sizeSamp (by rfl) ?_)
    | (go_at_call 17; ((with_reducible refine (hD _).mono ?_); rintro e w4 ⟨rfl, b4⟩; (have P4 := P3.below b4 (by omega)); (have J4 := J3.below b4 (by omega)); (have z4 := b4.size)))
    | (refine wpl_loadf (by rfl) 3 _ (by rfl) w.heap.size 0 (by rfl) _ _ P4 _ rfl _ Try.underlying3 rfl ?_)
    | (refine wpl_store (by rfl) 38 _ _ (by rfl) w1.heap.size (by rfl) _ (by rfl) _ rfl 38 _ J4 (by rfl) _ sizeIvl (by rfl) (by simp [Value.oneCell']) ?_; intro w5 J5 s5 g5))
  obtain ⟨c0, c1⟩ := cells2b J5
  refine bodyPost_ret (v := .agg (ilL (o - D) (o + D)).toArray) (by simp [results, Try.results14, go_sem, c0, c1]) rfl ?_
  exact ⟨rfl, (((b1.trans (b2.mono (by omega))).trans (b3.mono (by omega))).trans (b4.mono (by omega))).trans (g5.below (by omega) (by omega))⟩
end Go.Proofs.Ytdnmjeapihjabaa
namespace Go.Proofs.Ytdnmjeapihjabaa
open Go.RowKit
set_option linter.unusedSimpArgs false
set_option linter.unusedVariables false
set_option maxRecDepth 100000
section
variable {P : Program} {ops : Array Oper} {Q : Exit → Act → World → Prop} {md : Region.Mode} {S : World → Prop}
/-- in every world that meets S the operation yields v, and the world behind it meets S -/
def YS (P : Program) (S : World → Prop) (o : Oper) (v : Value) (a : Act) : Prop :=
  ∀ w, S w → Oper.wp P o a w (fun a' w' => a' = a.put o.dst v ∧ S w') (fun _ _ _ => False)
def YG (P : Program) (ops : Array Oper) (S : World → Prop) (o : Oper) (v : Value) (a : Act) : Prop :=
  (Region.wanted o (yielded ops a.tmps) = true ∧ YS P S o v a) ∨ (Region.wanted o (yielded ops a.tmps) = false ∧ v = undef)
theorem put_far {a : Act} {d : Option Tmp} {u v x : Value} {e : Option Tmp} (h : ∀ t, e = some t → d ≠ some t) (hu : a.put d u = a.put d v) : (a.put e x).put d u = (a.put e x).put d v := by
  have h1 : ∀ z : Value, (a.put e x).put d z = (a.put d z).put e x := fun z => Act.put_comm a x z h
  rw [h1, h1, hu]
theorem put_near {a : Act} {d : Option Tmp} {u v x : Value} {e : Option Tmp} (h : ∀ t, e = some t → d ≠ some t) (hu : (a.put e x).put d u = (a.put e x).put d v) : a.put d u = a.put d v := by
  cases d with
  | none => rfl
  | some d =>
    cases e with
    | none => exact hu
    | some e =>
      have hne : e ≠ d := fun he => h e rfl (by rw [he])
      have hu' := hu
      simp only [Act.put, Act.mk.injEq] at hu ⊢
      refine ⟨?_, hu.2⟩
      have h1 := hu.1
      apply Array.ext (by simp)
      intro i hi1 hi2
      have hi3 : i < a.tmps.size := by simpa using hi1
      have h2 := congrArg (fun t => t[i]?) h1
      by_cases hid : i = d
      · subst hid
        simp [hi3] at h2
        simp [h2]
      · rw [Array.getElem_setIfInBounds_ne hi3 (Ne.symm hid), Array.getElem_setIfInBounds_ne hi3 (Ne.symm hid)]
theorem YS.move {o : Oper} {v x : Value} {a : Act} {e : Option Tmp} (hs : ∀ cs b, o.op ≠ .select cs b) (hl : ∀ d, e = some d → d ∉ o.looksAt ops) (hd : ∀ d, e = some d → o.dst ≠ some d) : YS P S o v (a.put e x) ↔ YS P S o v a := by
  have he := execOp_put (ops := ops) o hs a e x hl
  unfold YS Oper.wp
  refine forall_congr' fun w => imp_congr_right fun _ => ?_
  rw [he]
  cases (execOp a.eval o).run P w with
  | ok n w' =>
    cases n <;> simp only [Oper.upon]
    case value u => exact and_congr_left fun _ => ⟨put_near hd, put_far hd⟩
    case skip => exact and_congr_left fun _ => ⟨put_near hd, put_far hd⟩
    case defer d =>
      refine and_congr_left fun _ => ⟨fun h => ?_, fun h => ?_⟩
      · exfalso
        have h2 := congrArg Act.defers h
        cases hq : o.dst <;> cases e <;> simp [Act.put, hq] at h2
      · exfalso
        have h2 := congrArg Act.defers h
        cases hq : o.dst <;> simp [Act.put, hq] at h2
    case enter f args =>
      have key : ∀ (b : Act) (r : Ending) (w'' : World), (match r with | .returned u => (b.put o.dst u = b.put o.dst v ∧ S w'') | .panicked c => False | .outgrown => False) ↔ (match r with | .returned u => (b.put o.dst u = b.put o.dst v ∧ S w'') | .panicked c => False | .outgrown => False) := fun _ _ _ => Iff.rfl
      constructor
      · intro h
        refine Calls.mono h fun r w'' hr => ?_
        cases r with
        | returned u => exact ⟨put_near hd hr.1, hr.2⟩
        | panicked c => exact hr
        | outgrown => exact hr
      · intro h
        refine Calls.mono h fun r w'' hr => ?_
        cases r with
        | returned u => exact ⟨put_far hd hr.1, hr.2⟩
        | panicked c => exact hr
        | outgrown => exact hr
    case row row args =>
      constructor
      · intro h; exact Rows.mono h fun u w'' hr => ⟨put_near hd hr.1, hr.2⟩
      · intro h; exact Rows.mono h fun u w'' hr => ⟨put_far hd hr.1, hr.2⟩
    all_goals exact Iff.rfl
  | halt x w' => cases x <;> simp only [Oper.upon]
theorem YG.move {o : Oper} {v x : Value} {a : Act} {e : Option Tmp} (hs : ∀ cs b, o.op ≠ .select cs b) (hl : ∀ d, e = some d → d ∉ o.looksAt ops) (hd : ∀ d, e = some d → o.dst ≠ some d) : YG P ops S o v (a.put e x) ↔ YG P ops S o v a := by
  unfold YG
  rw [wanted_put o a e x hl, YS.move (ops := ops) hs hl hd]
/-- whatever order is picked: every operation yields its one value -/
def wpD (P : Program) (md : Region.Mode) (ops : Array Oper) (Q : Exit → Act → World → Prop) (S : World → Prop) : Nat → Array Bool → Act → Prop
  | 0, listed, a => Region.ready md ops listed = [] ∧ ∀ w, S w → Q .normal a w
  | fuel + 1, listed, a => (Region.ready md ops listed = [] → ∀ w, S w → Q .normal a w) ∧
    ∀ i ∈ Region.ready md ops listed, ∃ o v, ops[i]? = some o ∧ YG P ops S o v a ∧ wpD P md ops Q S fuel (listed.setIfInBounds i true) (a.put o.dst v)
theorem wpD_sound : ∀ (fuel : Nat) (listed : Array Bool) (a : Act), wpD P md ops Q S fuel listed a → ∀ w, S w → wpAny P md ops Q fuel listed a w
  | 0, _, _, h => fun w hw => ⟨h.1, h.2 w hw⟩
  | fuel + 1, listed, a, h => fun w hw => ⟨fun hr => h.1 hr w hw, fun i hi => by
    obtain ⟨o, v, ho, hy, hd⟩ := h.2 i hi
    have ih := wpD_sound fuel _ _ hd
    unfold wpOp
    rw [ho]
    show if Region.wanted o (yielded ops a.tmps) = true then _ else _
    rcases hy with ⟨h1, h2⟩ | ⟨h1, rfl⟩
    · rw [if_pos h1]
      refine .inl ?_
      have h3 := h2 w hw
      unfold Oper.wp at h3 ⊢
      generalize (execOp a.eval o).run P w = r at h3 ⊢
      cases r with
      | ok n w' =>
        cases n <;> simp only [Oper.upon] at h3 ⊢
        case value u => rw [h3.1]; exact ih w' h3.2
        case skip => rw [h3.1]; exact ih w' h3.2
        case defer d => rw [h3.1]; exact ih w' h3.2
        case enter f args =>
          refine Calls.mono h3 fun r w'' hr => ?_
          cases r with
          | returned u => have hr : a.put o.dst u = a.put o.dst v ∧ S w'' := hr; show wpAny P md ops Q fuel _ (a.put o.dst u) w''; rw [hr.1]; exact ih w'' hr.2
          | panicked c => exact hr.elim
          | outgrown => have hr : LetsOut (fun (_ : Exit) (_ : Act) (_ : World) => False) := hr; obtain ⟨_, _, h⟩ := hr; exact h.elim
        case row row args => exact Rows.mono h3 fun u w'' hr => by rw [hr.1]; exact ih w'' hr.2
      | halt x w' => cases x <;> simp only [Oper.upon] at h3 ⊢
    · rw [if_neg (by rw [h1]; simp)]
      exact ih w hw⟩
theorem wpD_first {i : Nat} {oi : Oper} {v : Value} (hi : ops[i]? = some oi) (hsel : ∀ (j : Nat) (o : Oper) cs b, ops[j]? = some o → o.op ≠ .select cs b) :
    ∀ (fuel : Nat) (listed : Array Bool) (a : Act),
      (∀ j oj, ops[j]? = some oj → j ≠ i → listed.getD j true = false → (∀ e ∈ oj.after, Region.binds md e = true → e.on ≠ i) → oi.apart ops oj = true) →
      i ∈ Region.ready md ops listed → YG P ops S oi v a →
      wpD P md ops Q S fuel (listed.setIfInBounds i true) (a.put oi.dst v) → wpD P md ops Q S (fuel + 1) listed a := by
  intro fuel
  induction fuel with
  | zero =>
    intro listed a _ hr hy H
    refine ⟨fun h => (by rw [h] at hr; cases hr), fun j hj => ?_⟩
    by_cases hji : j = i
    · subst hji; exact ⟨oi, v, hi, hy, H⟩
    · have := ready_mono hj hji
      rw [H.1] at this
      cases this
  | succ fuel ih =>
    intro listed a hfree hr hy H
    refine ⟨fun h => (by rw [h] at hr; cases hr), fun j hj => ?_⟩
    by_cases hji : j = i
    · subst hji; exact ⟨oi, v, hi, hy, H⟩
    · obtain ⟨oj, u, hoj, hyj, hD⟩ := H.2 j (ready_mono hj hji)
      obtain ⟨hjun, oj', hoj', hall⟩ := mem_ready.1 hj
      obtain rfl : oj = oj' := Option.some.inj (hoj.symm.trans hoj')
      have hnot : ∀ e ∈ oj.after, Region.binds md e = true → e.on ≠ i := fun e he hb heq => by
        have h1 := hall e he hb
        have h0 := (mem_ready.1 hr).1
        rw [heq] at h1
        rcases Nat.lt_or_ge i listed.size with h' | h'
        · simp [h'] at h0 h1; rw [h0] at h1; cases h1
        · simp [Array.getElem?_eq_none h'] at h1
      obtain ⟨a1, a2, a3⟩ := Oper.apart_spec (hfree j oj hoj hji hjun hnot)
      have b2 : ∀ d, oj.dst = some d → oi.dst ≠ some d := fun d hd he => a2 d he hd
      refine ⟨oj, u, hoj, (YG.move (fun cs b => hsel j oj cs b hoj) a1 a2).1 hyj, ?_⟩
      have hfree' : ∀ k ok, ops[k]? = some ok → k ≠ i → (listed.setIfInBounds j true).getD k true = false →
          (∀ e ∈ ok.after, Region.binds md e = true → e.on ≠ i) → oi.apart ops ok = true := fun k ok hk hki hun hno => by
        refine hfree k ok hk hki ?_ hno
        by_cases hjk : j = k
        · subst hjk; exact hjun
        · rw [getD_set_ne true hjk] at hun; exact hun
      refine ih (listed.setIfInBounds j true) (a.put oj.dst u) hfree' (ready_mono hr (Ne.symm hji)) ((YG.move (fun cs b => hsel i oi cs b hi) a3 b2).2 hy) ?_
      rw [Array.setIfInBounds_comm _ _ hji, ← Act.put_comm a v u a2]
      exact hD
/-- number i is taken: it may come up, and those that do not wait for it are apart from it -/
theorem wpD_take {i : Nat} {oi : Oper} {v : Value} {fuel : Nat} {l : List Bool} {a : Act} (hi : ops[i]? = some oi)
    (hs : Region.noSelect ops = true) (hf : Region.free md ops l.toArray i = true) (hr : (Region.ready md ops l.toArray).contains i = true)
    (hw : Region.wanted oi (yielded ops a.tmps) = true) (hy : YS P S oi v a)
    (h : wpD P md ops Q S fuel (l.set i true).toArray (a.put oi.dst v)) : wpD P md ops Q S (fuel + 1) l.toArray a :=
  wpD_first hi (Region.noSelect_spec hs) fuel l.toArray a (Region.free_spec hi hf) (by simpa using hr) (.inl ⟨hw, hy⟩) (by rw [List.setIfInBounds_toArray]; exact h)
/-- number i is not wanted -/
theorem wpD_skip {i : Nat} {oi : Oper} {fuel : Nat} {l : List Bool} {a : Act} (hi : ops[i]? = some oi)
    (hs : Region.noSelect ops = true) (hf : Region.free md ops l.toArray i = true) (hr : (Region.ready md ops l.toArray).contains i = true)
    (hw : Region.wanted oi (yielded ops a.tmps) = false)
    (h : wpD P md ops Q S fuel (l.set i true).toArray (a.put oi.dst undef)) : wpD P md ops Q S (fuel + 1) l.toArray a :=
  wpD_first hi (Region.noSelect_spec hs) fuel l.toArray a (Region.free_spec hi hf) (by simpa using hr) (.inr ⟨hw, rfl⟩) (by rw [List.setIfInBounds_toArray]; exact h)
theorem wpD_done {listed : Array Bool} {a : Act} (hr : Region.ready md ops listed = []) (h : ∀ w, S w → Q .normal a w) :
    ∀ fuel, wpD P md ops Q S fuel listed a
  | 0 => ⟨hr, h⟩
  | _ + 1 => ⟨fun _ => h, by rw [hr]; simp⟩
/-- the beginning -/
theorem wp_region_det {id : Nat} {a : Act} {w : World} (S : World → Prop) (n : Nat) (hm : P.follows .mixedOrders = true) (hn : ops.size = n) (hS : S w.drew)
    (h : wpD P .any ops Q S n (List.replicate n false).toArray a) : (Code.region id ops true).wp P Q a w := by
  refine wp_region_any hm (wpD_sound _ _ _ ?_ _ hS)
  rw [hn, show Array.replicate n false = (List.replicate n false).toArray by simp]
  exact h
/-- an operation that leaves the world as it is -/
theorem YS.of_value {o : Oper} {v : Value} {a : Act} (h : ∀ w, S w → (execOp a.eval o).run P w = .ok (.value v) w) : YS P S o v a := fun w hw => by
  unfold Oper.wp
  rw [h w hw]
  exact ⟨rfl, hw⟩
/-- the same region under a condition that is held, step by step (for a region of few operations that stores or appends) -/
theorem wp_region_heldL {id : Nat} {a : Act} {w : World} (S : World → Prop) (n : Nat) (hm : P.follows .mixedOrders = true) (hn : ops.size = n) (hS : S w.drew)
    (h : S w.drew → wpAnyH P .any ops Q S n (List.replicate n false).toArray a w.drew) : (Code.region id ops true).wp P Q a w := by
  refine wp_region_held_drew hm hS fun h0 => ?_
  rw [hn, show Array.replicate n false = (List.replicate n false).toArray by simp]
  exact h h0
theorem wpH_take {i : Nat} {oi : Oper} {v : Value} {fuel : Nat} {l : List Bool} {a : Act} {w : World} (hi : ops[i]? = some oi)
    (hs : Region.noSelect ops = true) (hf : Region.free md ops l.toArray i = true) (hr : (Region.ready md ops l.toArray).contains i = true)
    (hQ : ∀ c a w, Q (.panic c) (a.put oi.dst v) w → Q (.panic c) a w) (hy : YieldsIf P ops S oi v a) (hS : S w)
    (h : wpAnyH P md ops Q S fuel (l.set i true).toArray (a.put oi.dst v) w) : wpAnyH P md ops Q S (fuel + 1) l.toArray a w :=
  wpAnyH_take hi hs hf hr hQ hy hS (by rw [List.setIfInBounds_toArray]; exact h)
theorem wpH_one {i : Nat} {oi : Oper} {fuel : Nat} {l : List Bool} {a : Act} {w : World} (hi : ops[i]? = some oi) (hr : Region.ready md ops l.toArray = [i]) (hw : Region.wanted oi (yielded ops a.tmps) = true)
    (h : Oper.wp P oi a w (fun a' w' => S w' ∧ wpAnyH P md ops Q S fuel (l.set i true).toArray a' w') Q) : wpAnyH P md ops Q S (fuel + 1) l.toArray a w := by
  refine wpAnyH_all hr (by simp) fun j hj => ?_
  obtain rfl : j = i := by simpa using hj
  unfold wpOp
  rw [hi]
  show if Region.wanted oi (yielded ops a.tmps) = true then _ else _
  rw [if_pos hw, List.setIfInBounds_toArray]
  exact .inl h
theorem wpH_done {listed : Array Bool} {a : Act} {w : World} (hr : Region.ready md ops listed = []) (h : Q .normal a w) : ∀ fuel, wpAnyH P md ops Q S fuel listed a w := wpAnyH_done hr h
end
end Go.Proofs.Ytdnmjeapihjabaa
namespace Go.Proofs.Ytdnmjeapihjabaa
open Go.RowKit
set_option linter.unusedSimpArgs false
set_option linter.unusedVariables false
set_option maxRecDepth 100000
section
variable {P : Program} {ops : Array Oper} {Q : Exit → Act → World → Prop} {md : Region.Mode} {S : World → Prop}
theorem wpH_two {i j : Nat} {oi oj : Oper} {fuel : Nat} {l : List Bool} {a : Act} {w : World} (hi : ops[i]? = some oi) (hj : ops[j]? = some oj) (hr : Region.ready md ops l.toArray = [i, j])
    (hwi : Region.wanted oi (yielded ops a.tmps) = true) (hwj : Region.wanted oj (yielded ops a.tmps) = true)
    (h1 : Oper.wp P oi a w (fun a' w' => S w' ∧ wpAnyH P md ops Q S fuel (l.set i true).toArray a' w') Q)
    (h2 : Oper.wp P oj a w (fun a' w' => S w' ∧ wpAnyH P md ops Q S fuel (l.set j true).toArray a' w') Q) : wpAnyH P md ops Q S (fuel + 1) l.toArray a w := by
  refine wpAnyH_all hr (by simp) fun k hk => ?_
  have hk' : k = i ∨ k = j := by simpa using hk
  unfold wpOp
  rcases hk' with rfl | rfl
  · rw [hi]
    show if Region.wanted oi (yielded ops a.tmps) = true then _ else _
    rw [if_pos hwi, List.setIfInBounds_toArray]
    exact .inl h1
  · rw [hj]
    show if Region.wanted oj (yielded ops a.tmps) = true then _ else _
    rw [if_pos hwj, List.setIfInBounds_toArray]
    exact .inl h2
end
section
variable {P : Program} {o : Oper} {a : Act} {w : World} {K : Act → World → Prop} {Q : Exit → Act → World → Prop}
/-- one cell is written, at an operation by itself -/
theorem wp_storef1 (T : TypeId) (x y : Operand) (ho : o.op = .store T x y) (b i : Nat) (hx : a.eval x = .pointer (some ⟨b, i, none⟩)) (v : Value) (hy : a.eval y = v) (hc : v.cells = #[v]) (h1 : v.oneCell' = true) (t : TypeId) (cs : List Value) (hB : Blk w b t cs) (hlt : i < cs.length)
    (hi : (P.info? T).map (·.size) = some 1) (h : K (a.put o.dst undef) (w.setCell ⟨b, i, none⟩ v)) : o.wp P a w K Q := by
  have ht : w.there b i 1 := fun j hj => by
    obtain rfl : j = 0 := by omega
    have := hB.there i hlt
    rwa [Nat.zero_add] at this
  have hr : (Instr.storeAt T (.pointer (some ⟨b, i, none⟩)) v).run P w = .ok () (w.setCell ⟨b, i, none⟩ v) := by
    have h2 := run_storeVar_mid (P := P) w b i T #[v] (by simpa using ht) (by simpa using hi) (by simpa using h1)
    have e : storeVar T ⟨b, i, none⟩ v = storeVar T ⟨b, i, none⟩ (.agg #[v]) := by unfold storeVar; rw [hc]; rfl
    simp only [Instr.storeAt, Instr.sureAddr, Sem.run_bind, Sem.run_pure, Result.andThen_ok, e, h2]
    rfl
  unfold Oper.wp execOp
  simp only [ho, hx, hy, Sem.run_bind, hr, Result.andThen_ok, Sem.run_pure]
  exact h
/-- one cell is read, at an operation by itself -/
theorem wp_loadf1 (T : TypeId) (x : Operand) (ho : o.op = .load T x) (b i : Nat) (hx : a.eval x = .pointer (some ⟨b, i, none⟩)) (v : Value) (hcell : w.cell? ⟨b, i, none⟩ = some v) (d : TypeDesc)
    (hu : P.underlying T = some d) (hd : d.isRow = false) (h : K (a.put o.dst v) w) : o.wp P a w K Q := by
  have hagg : (isAgg T).run P w = .ok false w := by
    unfold isAgg
    rw [Sem.run_bind, run_underlying hu w]
    cases d <;> simp_all
  have hr : (Instr.loadAt T (.pointer (some ⟨b, i, none⟩))).run P w = .ok v w := by
    simp [Instr.loadAt, Instr.sureAddr, loadVar, Sem.run_bind, hagg, hcell, go_sem]
  unfold Oper.wp execOp
  simp only [ho, hx, Sem.run_bind, hr, Result.andThen_ok, Sem.run_pure]
  exact h
end
end Go.Proofs.Ytdnmjeapihjabaa
namespace Go.Proofs.Ytdnmjeapihjabaa
open Go.RowKit
set_option linter.unusedSimpArgs false
set_option linter.unusedVariables false
set_option maxRecDepth 100000
section
variable {P : Program} {o : Oper} {a : Act} {w : World} {K : Act → World → Prop} {Q : Exit → Act → World → Prop}
theorem wp_alloc1 (T : TypeId) (ho : o.op = .alloc T) (z : Value) (zs : List Value) (hi : (P.info? T).map (·.zero) = some (some z)) (hc : z.cells = zs.toArray)
    (h : ∀ w', Blk w' w.heap.size T zs → w.heap.size < w'.heap.size → Below w.heap.size w w' → K (a.put o.dst (.pointer (some ⟨w.heap.size, 0, none⟩))) w') : o.wp P a w K Q := by
  cases hq : P.info? T with
  | none => simp [hq] at hi
  | some i =>
    have hz : i.zero = z := by simpa [hq] using hi
    have hr : (Instr.alloc T true (.tuple #[])).run P w = .ok (.pointer (some ⟨w.heap.size, 0, none⟩)) (w.alloc (.cells zs.toArray T)) := by
      simp [Instr.alloc, zeroValue, typeInfo, Sem.run_bind, hq, hz, newVar, newRow, hc]
    unfold Oper.wp execOp
    simp only [ho, Sem.run_bind, hr, Result.andThen_ok, Sem.run_pure]
    exact h _ (Blk.new w T _ zs rfl) (by simp) ((Below.refl _ w).alloc (Nat.le_refl _) _)
theorem wp_store1 (T : TypeId) (x y : Operand) (ho : o.op = .store T x y) (b : Nat) (hx : a.eval x = .pointer (some ⟨b, 0, none⟩)) (cells : Array Value) (hy : a.eval y = .agg cells) (cs : List Value) (hc : cells = cs.toArray) (t : TypeId) (ds : List Value) (hB : Blk w b t ds)
    (hl : ds.length = cs.length) (n : Nat) (hi : (P.info? T).map (·.size) = some n) (hn : cs.length = n) (h1 : ∀ v ∈ cs, v.oneCell' = true)
    (h : ∀ w', Blk w' b t cs → w.heap.size ≤ w'.heap.size → But b w w' → K (a.put o.dst undef) w') : o.wp P a w K Q := by
  subst hc hn
  exact wp_store_mid T x y ho b 0 cs.toArray hx hy (by have := hB.there; rw [hl] at this; simpa using this) (by simpa using hi) (all_oneCell_toArray h1) (h _ (hB.stored cs hl) (Nat.le_of_eq (size_setCells _ _ _ _).symm) (but_setCells _ _ _ (World.grownBy.refl w _)))
end
end Go.Proofs.Ytdnmjeapihjabaa
namespace Go.Proofs.Ytdnmjeapihjabaa
open Go.RowKit
set_option linter.unusedSimpArgs false
set_option linter.unusedVariables false
set_option maxRecDepth 100000
theorem alloc_cell {w : World} {b i : Nat} {v : Value} {o : Obj} (h : w.cell? ⟨b, i, none⟩ = some v) : (w.alloc o).cell? ⟨b, i, none⟩ = some v := (World.cell?_alloc_lt w o _ (World.block_lt_of_cell? w _ h)).trans h
theorem alloc_size {w : World} {N : Nat} {o : Obj} (h : N ≤ w.heap.size) : N ≤ (w.alloc o).heap.size := by simp; omega
theorem but_cell {g b i : Nat} {w w' : World} {v : Value} (hg : But g w w') (h : w.cell? ⟨b, i, none⟩ = some v) (hne : b ≠ g) : w'.cell? ⟨b, i, none⟩ = some v := (World.cell?_of_block (hg.block b (World.block_lt_of_cell? w _ h) (by simpa using hne))).trans h
theorem far_cell {w : World} {b i : Nat} {v u : Value} {p : Addr} (h : w.cell? ⟨b, i, none⟩ = some v) (hne : b ≠ p.block) : (w.setCell p u).cell? ⟨b, i, none⟩ = some v := by
  rw [World.cell?_setCell_other w p _ u (fun e => hne (by rw [e]))]; exact h
theorem far_size {w : World} {N : Nat} {p : Addr} {u : Value} (h : N ≤ w.heap.size) : N ≤ (w.setCell p u).heap.size := by simpa [World.setCell] using h
theorem Blk.far {w : World} {b : Nat} {t : TypeId} {cs : List Value} {p : Addr} {u : Value} (h : Blk w b t cs) (hne : b ≠ p.block) : Blk (w.setCell p u) b t cs := (Below.heap_setCell w p u b hne).trans h
theorem bcell' {g : Nat} {W w1 : World} (hb : But g W w1) : (∀ b o, b < W.heap.size → b ≠ g → w1.cell? ⟨b, o, none⟩ = W.cell? ⟨b, o, none⟩) ∧ (∀ b o, b < W.heap.size → b ≠ g → w1.frozen? ⟨b, o, none⟩ = W.frozen? ⟨b, o, none⟩) :=
  ⟨fun b o h hn => World.cell?_of_block (hb.block b h (by simpa using hn)), fun b o h hn => World.frozen?_of_block (hb.block b h (by simpa using hn))⟩
theorem realloc_cell {w : World} {o o' : Obj} {b i : Nat} {v : Value} (h : (w.alloc o).cell? ⟨b, i, none⟩ = some v) (hb : b < w.heap.size) : (w.alloc o').cell? ⟨b, i, none⟩ = some v := (World.cell?_alloc_lt w o' _ hb).trans ((World.cell?_alloc_lt w o _ hb).symm.trans h)
theorem realloc_size {w : World} {o o' : Obj} {N : Nat} (h : N ≤ (w.alloc o).heap.size) : N ≤ (w.alloc o').heap.size := by simpa using h
theorem realloc_below {w0 w : World} {o o' : Obj} {B : Nat} (h : Below B w0 (w.alloc o)) (hB : B ≤ w.heap.size) : Below B w0 (w.alloc o') :=
  ⟨h.os, h.tape, h.output, by have := h.size; simp at this ⊢; omega, fun k hk => (heap_alloc_old w o' (by omega)).trans ((heap_alloc_old w o (by omega)).symm.trans (h.block k hk))⟩
theorem blk_step {w w' : World} {b : Nat} {t : TypeId} {cs : List Value} (h : Blk w b t cs) (hb : Below w.heap.size w w') : Blk w' b t cs := h.below hb h.lt
theorem blk_first {w w' : World} {t : TypeId} {cs : List Value} (hb : Below (w.alloc (.cells cs.toArray t)).heap.size (w.alloc (.cells cs.toArray t)) w') : Blk w' w.heap.size t cs := (Blk.new w t cs.toArray cs rfl).below hb (by simp)
theorem blk_stepB {w w' : World} {b g : Nat} {t : TypeId} {cs : List Value} (h : Blk w b t cs) (hb : But g w w') (hne : b ≠ g) : Blk w' b t cs := h.but hb hne
theorem blk_firstB {w w' : World} {g : Nat} {t : TypeId} {cs : List Value} (hb : But g (w.alloc (.cells cs.toArray t)) w') (hne : w.heap.size ≠ g) : Blk w' w.heap.size t cs := (Blk.new w t cs.toArray cs rfl).but hb hne
theorem far_below {B : Nat} {w0 w : World} {p : Addr} {u : Value} (h : Below B w0 w) (hp : B ≤ p.block) : Below B w0 (w.setCell p u) := h.setCell hp u
theorem realloc_blk {w : World} {o o' : Obj} {b : Nat} {t : TypeId} {cs : List Value} (h : Blk (w.alloc o) b t cs) (hb : b < w.heap.size) : Blk (w.alloc o') b t cs := (heap_alloc_old w o' hb).trans ((heap_alloc_old w o hb).symm.trans h)
end Go.Proofs.Ytdnmjeapihjabaa
