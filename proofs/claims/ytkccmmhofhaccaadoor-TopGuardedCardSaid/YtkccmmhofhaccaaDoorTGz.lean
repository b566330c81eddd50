/- TopGuarded (G8): an authenticated request and its reply are accepted with their headers, the reply once; one changed bit of either is not accepted, unless the changed bytes have the tag; a cookie is accepted as long as its generation is kept: for every input it returns true, and its arguments read afterwards as before; the table of rounds lies as the program's text lays it. No condition. -/
import Derived.Test.YtkccmmhofhaccaaDoorTGz2
import Derived.Test.YtkccmmhofhaccaaDoorTGz17
import Derived.Test.YtkccmmhofhaccaaDoorTGz15
import Derived.Test.YtkccmmhofhaccaaDoorTie
import Derived.Test.YtkccmmhofhaccaaDoorCards
import Derived.SevenTiedAt
namespace Go.Proofs.YtkccmmhofhaccaaDoor
open Go.ChangeShapes Go.WideShapes Go.ChangeAt Go.RowKit Go.Joins
set_option linter.unusedSimpArgs false
set_option linter.unusedVariables false
set_option maxRecDepth 100000
theorem cellsTlk : Tryd.prog.cellsOf 29 = 23 := by kernel_rfl
theorem cellsU64' : Tryd.prog.cellsOf 22 = 1 := by kernel_rfl
theorem cellsI64' : Tryd.prog.cellsOf 3 = 1 := by kernel_rfl
set_option maxRecDepth 100000 in
set_option maxHeartbeats 4000000 in
/-- a talk by value: its cells -/
theorem open_tlk {H : Type} {enc : TypeId × Value → H} {W : World} {b0 : Nat} {r : Reach} {vv : Value} {d : DataW H} {p : List MemPlace} (hv : Value.okWide Tryd.prog W r b0 29 vv) (h : DataW.Trod enc Tryd.prog W 0 (fun _ => true) true 29 vv d p) :
    ∃ s k0 k1 k2 k3 l v m st po pr rd rp id ref org rec xmt kp ro bq br no : Int, vv = .agg (tlkL s k0 k1 k2 k3 l v m st po pr rd rp id ref org rec xmt kp ro bq br no).toArray ∧ (U64 s ∧ U64 k0 ∧ U64 k1 ∧ U64 k2 ∧ U64 k3 ∧ U64 no) ∧ ((0 ≤ rd ∧ rd ≤ 4294967295) ∧ (0 ≤ rp ∧ rp ≤ 4294967295) ∧ (0 ≤ id ∧ id ≤ 4294967295) ∧ (0 ≤ ref ∧ ref ≤ 18446744073709551615) ∧ (0 ≤ org ∧ org ≤ 18446744073709551615) ∧ (0 ≤ rec ∧ rec ≤ 18446744073709551615) ∧ (0 ≤ xmt ∧ xmt ≤ 18446744073709551615)) ∧ (-9223372036854775808 ≤ bq ∧ bq ≤ 9223372036854775807) ∧ (-9223372036854775808 ≤ br ∧ br ≤ 9223372036854775807) := by
  obtain ⟨cs, fuel, x, rfl, hx⟩ := open_struct Tryd.underlying29 hv h
  obtain ⟨hl, hf⟩ := trod_fields Tryd.underlying29 hx
  rw [cellsTlk] at hl
  match cs, hl with
  | [a0, a1, a2, a3, a4, a5, a6, a7, a8, a9, a10, a11, a12, a13, a14, a15, a16, a17, a18, a19, a20, a21, a22], _ =>
    obtain ⟨y0, n0, h0⟩ := hf 0 _ rfl
    obtain ⟨y1, n1, h1⟩ := hf 1 _ rfl
    obtain ⟨y2, n2, h2⟩ := hf 2 _ rfl
    obtain ⟨y3, n3, h3⟩ := hf 3 _ rfl
    obtain ⟨y4, n4, h4⟩ := hf 4 _ rfl
    obtain ⟨y5, n5, h5⟩ := hf 5 _ rfl
    obtain ⟨y6, n6, h6⟩ := hf 6 _ rfl
    obtain ⟨y7, n7, h7⟩ := hf 7 _ rfl
    obtain ⟨y8, n8, h8⟩ := hf 8 _ rfl
    simp [cellsU64', cellsI64', cellsKey, cellsNtp] at h0 h1 h2 h3 h4 h5 h6 h7 h8
    obtain ⟨s, e0, _, w0⟩ := DataW.trod_int Tryd.underlying22 h0
    obtain ⟨k0, k1, e1, u0, u1⟩ := key_cells h1
    obtain ⟨k2, k3, e2, u2, u3⟩ := key_cells h2
    obtain ⟨l, v, m, st, po, pr, rd, rp, id, ref, org, rec, xmt, e3, _, _, _, _, _, _, g6, g7, g8, g9, g10, g11, g12⟩ := ntp_cells h3
    obtain ⟨kp, e4, _, w4⟩ := DataW.trod_int Tryd.underlying3 h4
    obtain ⟨ro, e5, _, w5⟩ := DataW.trod_int Tryd.underlying3 h5
    obtain ⟨bq, e6, _, w6⟩ := DataW.trod_int Tryd.underlying3 h6
    obtain ⟨br, e7, _, w7⟩ := DataW.trod_int Tryd.underlying3 h7
    obtain ⟨no, e8, _, w8⟩ := DataW.trod_int Tryd.underlying22 h8
    simp at e0 e1 e2 e3 e4 e5 e6 e7 e8
    obtain ⟨rfl, rfl⟩ := e1
    obtain ⟨rfl, rfl⟩ := e2
    obtain ⟨rfl, rfl, rfl, rfl, rfl, rfl, rfl, rfl, rfl, rfl, rfl, rfl, rfl⟩ := e3
    subst e0 e4 e5 e6 e7 e8
    exact ⟨s, k0, k1, k2, k3, l, v, m, st, po, pr, rd, rp, id, ref, org, rec, xmt, kp, ro, bq, br, no, rfl, ⟨bounds_u64 w0, u0, u1, u2, u3, bounds_u64 w8⟩, ⟨g6, g7, g8, g9, g10, g11, g12⟩, bounds_i64 w6, bounds_i64 w7⟩
theorem top47 (s k0 k1 k2 k3 l v m st po pr rd rp id ref org rec xmt kp ro bq br no : Int) (w : World) (hs : U64 s) (hk0 : U64 k0) (hk1 : U64 k1) (hk2 : U64 k2) (hk3 : U64 k3) (h6 : 0 ≤ rd ∧ rd ≤ 4294967295) (h7 : 0 ≤ rp ∧ rp ≤ 4294967295) (h8 : 0 ≤ id ∧ id ≤ 4294967295) (h9 : 0 ≤ ref ∧ ref ≤ 18446744073709551615) (h10 : 0 ≤ org ∧ org ≤ 18446744073709551615) (h11 : 0 ≤ rec ∧ rec ≤ 18446744073709551615) (h12 : 0 ≤ xmt ∧ xmt ≤ 18446744073709551615) (hno : U64 no) (hbq : -9223372036854775808 ≤ bq ∧ bq ≤ 9223372036854775807) (hbr : -9223372036854775808 ≤ br ∧ br ≤ 9223372036854775807) (hR : Rnd w) :
    Calls Tryd.prog 3 #[.agg (tlkL s k0 k1 k2 k3 l v m st po pr rd rp id ref org rec xmt kp ro bq br no).toArray] w fun e w' => e = .returned (.bool true) ∧ Below w.heap.size w w' := by
  by_cases hX : 1 ≤ kp ∧ kp ≤ 8 ∧ 0 ≤ ro ∧ ro ≤ 20 ∧ 1 ≤ v
  · exact top_main s k0 k1 k2 k3 l v m st po pr rd rp id ref org rec xmt kp ro bq br no w hs hk0 hk1 hk2 hk3 h6 h7 h8 h9 h10 h11 h12 hno hbq hbr hX hR
  · exact top_early s k0 k1 k2 k3 l v m st po pr rd rp id ref org rec xmt kp ro bq br no w hX
namespace lawGuarded
set_option maxRecDepth 100000 in
theorem lifted (os : Os) (started : os.Started) (H : Type) (enc : TypeId × Value → H) :
    ReturnsInHanded {} Tryd.checked os 3 .any (fun w args => (Rows.topGuardedSpec.pre enc Tryd.prog Tryd.f3 [] false w args ∧ laidMet Tryd.prog laidR w) ∧ sizedMet enc Tryd.prog Tryd.f3 (OpenSpec.ofChange Rows.topGuardedSpec) false w args)
      (Rows.topGuardedSpec.post enc Tryd.prog Tryd.f3 false true false false) := by
  refine returnsInHanded_of_change_and (C := Tryd.checked) (X := fun w _ => laidMet Tryd.prog laidR w) (fun _ _ _ hh h => h.of_heap hh) own started (by kernel_rfl) Tryd.func3
    (ChangeSpec.witness_at (enc := enc) (C := Tryd.checked) (os := os) (X := fun w _ => laidMet Tryd.prog laidR w) false (laidWorld os) #[.agg #[.int .u64 0, .int .u64 0, .int .u64 0, .int .u64 0, .int .u64 0, .int .i64 0, .int .i64 0, .int .i64 0, .int .i64 0, .int .i64 0, .int .i64 0, .int .u32 0, .int .u32 0, .int .u32 0, .int .u64 0, .int .u64 0, .int .u64 0, .int .u64 0, .int .i64 0, .int .i64 0, .int .i64 0, .int .i64 0, .int .u64 0]] 8 rfl (by kernel_rfl) (by kernel_rfl) (by kernel_rfl) (by kernel_rfl) (by kernel_rfl) (laidWorld_met os _)) ?_
  intro W base args ds gs before hval0 hW hcnd hsz0 hLd _
  have hval : ∀ (j : Nat) t v, Tryd.f3.params[j]? = some t → args[j]? = some v → Value.okWide Tryd.prog W .any base t v := hval0
  have hW' := hW
  have hRnd := rnd_of_laid hLd
  obtain ⟨p, q, hA0, hV, rfl, hfz, hnd⟩ := hW
  have hA : DataW.TrodAll enc Tryd.prog W 0 (fun _ => true) true Tryd.f3.params.toList args.toList ds p := hA0
  have hsz : (DataW.weightsEach Tryd.prog (Tryd.f3.params.toList ++ Rows.topGuardedSpec.plain.varTypes Tryd.prog) (ds ++ gs)).all (· ≤ reachBytes) = true := hsz0
  rw [Tryd.params3] at hA hval hsz
  obtain ⟨rfl, rfl⟩ := trodVars_none hV
  obtain ⟨v0, d0, rfl, rfl, h0⟩ := trodAll_one hA
  obtain ⟨s, k0, k1, k2, k3, l, v, m, st, po, pr, rd, rp, id, ref, org, rec, xmt, kp, ro, bq, br, no, rfl, ⟨us, u0, u1, u2, u3, un⟩, ⟨g6, g7, g8, g9, g10, g11, g12⟩, hq, hr⟩ := open_tlk (hval 0 29 v0 rfl rfl) h0
  refine (top47 s k0 k1 k2 k3 l v m st po pr rd rp id ref org rec xmt kp ro bq br no W us u0 u1 u2 u3 g6 g7 g8 g9 g10 g11 g12 un hq hr hRnd).mono fun e W' ⟨he, hb⟩ => ?_
  subst he
  revert hb
  simp only [List.append_nil] at hW'
  intro hb
  exact ⟨_, rfl, law_post (tb := 4) laidOut Tryd.underlying4 rfl (by rw [Tryd.params3]; intro t ht; revert ht; revert t; exact of_decide_eq_true (by kernel_rfl)) rfl rfl rfl rfl hW' hb⟩
theorem over : Rows.topGuardedRow.holds Tryd.pinned (OpenSpec.ofChange Rows.topGuardedSpec) :=
  OpenClaim.holds_of_wide 3 Tryd.f3 rfl rfl rfl rfl rfl rfl rfl ⟨rfl, rfl, rfl, rfl, rfl⟩ rfl rfl rfl rfl rfl (by kernel_rfl) Tryd.func3 (by kernel_rfl)
    (of_decide_eq_true (by kernel_rfl)) (by unfold Func.isWrapper; first | (rw [if_pos (by decide +kernel)]; kernel_rfl) | (rw [if_neg (by decide +kernel)]; exact ⟨rfl, rfl⟩))
    (fun os started H enc _ => lifted os started H enc)
theorem proved : Rows.TopGuardedCardSaid :=
  Claim7.holds_tied_plain_at .later [] [.data] true Rows.topGuardedCard.stood.harness false
    over (fun _ h => by cases h) (by kernel_rfl) (fun _ h => by cases h) topGuarded_row_tie rfl ⟨rfl, rfl⟩ (by kernel_rfl) rfl
    (fun f fn hf hfn => by
      obtain rfl : f = 3 := Option.some.inj (hf.symm.trans (show Tryd.pinned.checked.prog.funcNamed Rows.topGuardedRow.func = some 3 by kernel_rfl))
      obtain rfl : fn = Tryd.f3 := (Option.some.inj (Tryd.func3.symm.trans hfn)).symm
      refine ⟨by kernel_rfl, fun j t ht => ?_⟩
      have hall : (Tryd.f3.params.toList.all fun t => !Tryd.pinned.checked.prog.wantsStandIn t) = true := by kernel_rfl
      have h1 := List.all_eq_true.1 hall t (Array.mem_toList_iff.2 (Array.mem_of_getElem? ht))
      simpa using h1)
    (by kernel_rfl)
#print axioms proved
end lawGuarded
end Go.Proofs.YtkccmmhofhaccaaDoor
