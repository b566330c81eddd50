/- GuardRuns (P47.1 to P47.5): a client and a server answer every call as specified: for every input it returns true, and its arguments read afterwards as before; the table of rounds lies as the program's text lays it. No condition. -/
import Derived.Test.YtachhbbofemfdaaDoorGXz2
import Derived.Test.YtachhbbofemfdaaDoorGXz23
import Derived.Test.YtachhbbofemfdaaDoorGXz22
import Derived.Test.YtachhbbofemfdaaDoorTie
import Derived.Test.YtachhbbofemfdaaDoorCards
import Derived.SevenTiedAt
namespace Go.Proofs.YtachhbbofemfdaaDoor
open Go.ChangeShapes Go.WideShapes Go.ChangeAt Go.RowKit Go.Joins
set_option linter.unusedSimpArgs false
set_option linter.unusedVariables false
set_option maxRecDepth 100000
instance : Inhabited OpT := ⟨opZ⟩
theorem cellsOp : Tryd.prog.cellsOf 45 = 18 := by kernel_rfl
theorem cellsExs : Tryd.prog.cellsOf 42 = 1 := by kernel_rfl
theorem cellsU64p : Tryd.prog.cellsOf 22 = 1 := by kernel_rfl
theorem cellsU8p : Tryd.prog.cellsOf 5 = 1 := by kernel_rfl
theorem cellsI64p : Tryd.prog.cellsOf 3 = 1 := by kernel_rfl
section
variable {H : Type} {enc : TypeId × Value → H}
theorem cell_exts {W : World} {fuel : Nat} {v : Value} {x : DataW H × List MemPlace} (hf : DataW.trod enc Tryd.prog W 0 (fun _ => true) true fuel 42 [v] = some x) :
    ∃ (A : Option Addr) (n c : Nat) (L : List (Int × List Int)), v = .slice A n c ∧ L.length = n ∧ Xs W W.heap.size A L ∧ n ≤ c ∧ c ≤ 9223372036854775807 ∧ (A = none → n = 0 ∧ c = 0) := by
  rcases Go.Deep.open_slice Tryd.underlying42 hf with ⟨hcs, hx⟩ | ⟨a, len', cap', m, n, D, Pl, hcs, _, hl, hm, hmm, hx, hcell⟩
  · simp at hcs
    subst hcs
    exact ⟨none, 0, 0, [], rfl, rfl, Xs.nil, Nat.le_refl _, by omega, fun _ => ⟨rfl, rfl⟩⟩
  · simp at hcs
    subst hcs
    simp only [if_true] at hmm
    subst hmm
    rw [cellsExt] at hcell
    have each : ∀ i, i < m → ∃ q : (Int × List Int) × (Option Addr × Nat), W.cells? 0 (a.add (i * 2)) 2 = some [.int .i64 q.1.1, .slice q.2.1 q.1.2.length q.2.2] ∧ Bs W 0 W.heap.size q.2.1 q.1.2 ∧ q.1.2.length ≤ q.2.2 ∧ q.2.2 ≤ 9223372036854775807 ∧ (q.2.1 = none → q.1.2.length = 0 ∧ q.2.2 = 0) := fun i hi => by
      obtain ⟨cs', h1, h2⟩ := hcell i hi
      obtain ⟨kd, A, c, dt, rfl, b1, b2, b3, b4, b5⟩ := ext_cells h2
      exact ⟨((kd, dt), (A, c)), h1, b1, b2, b3, b4⟩
    obtain ⟨q, hq⟩ := Go.Deep.choose_lt each
    obtain ⟨L, hL⟩ : ∃ L, L = (List.range len').map fun i => (q i).1 := ⟨_, rfl⟩
    have hLl : L.length = len' := by rw [hL]; simp
    have hat : ∀ k, k < len' → L.getD k (0, []) = (q k).1 := fun k hk => by
      rw [hL, List.getD_eq_getElem?_getD, List.getElem?_map, List.getElem?_range hk]; rfl
    refine ⟨some a, len', m, L, rfl, hLl, fun hp => ?_, hl, by unfold maxLen at hm; exact hm, (fun h => by cases h)⟩
    rw [hLl] at hp
    obtain ⟨ab, ao, spot⟩ := a
    obtain ⟨_, _, hcl⟩ := World.cells?_some (hq 0 (by omega)).1
    have h0 := hcl 0 (by omega)
    have hspot : spot = none := by simpa [Addr.add] using World.cell?_spot h0
    subst hspot
    refine ⟨ab, ao, rfl, ?_, fun k hk => ?_⟩
    · have := World.block_lt_of_cell? W _ h0
      simpa [ofAdd] using this
    · rw [hLl] at hk
      obtain ⟨e1, b1, b2, b3, b4⟩ := hq k (by omega)
      obtain ⟨_, _, hcl⟩ := World.cells?_some e1
      have c0 := hcl 0 (by omega)
      have c1 := hcl 1 (by omega)
      rw [ofAdd, ofAdd] at c0 c1
      unfold kdL dtL
      rw [hat k hk]
      exact ⟨(q k).2.1, (q k).2.2, by simpa using c0, by simpa using c1, b1, b2, b3, b4⟩
set_option maxRecDepth 100000 in
set_option maxHeartbeats 4000000 in
theorem op_cells {W : World} {fuel : Nat} {cs : List Value} {x : DataW H × List MemPlace} (h : DataW.trod enc Tryd.prog W 0 (fun _ => true) true fuel 45 cs = some x) :
    ∃ q : OpT × (Option Addr × Nat) × (Option Addr × Nat), cs = opCt q.1 q.2.1.1 q.2.1.2 q.2.2.1 q.2.2.2 ∧ (Xs W W.heap.size q.2.1.1 q.1.L ∧ q.1.L.length ≤ q.2.1.2 ∧ q.2.1.2 ≤ 9223372036854775807 ∧ (q.2.1.1 = none → q.1.L.length = 0)) ∧ Bs W 0 W.heap.size q.2.2.1 q.1.b ∧ q.1.b.length ≤ q.2.2.2 ∧ q.2.2.2 ≤ 9223372036854775807 ∧ (q.2.2.1 = none → q.1.b.length = 0 ∧ q.2.2.2 = 0) ∧ OkW q.1 := by
  obtain ⟨hl, hf⟩ := trod_fields Tryd.underlying45 h
  rw [cellsOp] at hl
  match cs, hl with
  | [a0, a1, a2, a3, a4, a5, a6, a7, a8, a9, a10, a11, a12, a13, a14, a15, a16, a17], _ =>
    obtain ⟨y0, n0, h0⟩ := hf 0 _ rfl
    obtain ⟨y1, n1, h1⟩ := hf 1 _ rfl
    obtain ⟨y2, n2, h2⟩ := hf 2 _ rfl
    obtain ⟨y3, n3, h3⟩ := hf 3 _ rfl
    obtain ⟨y4, n4, h4⟩ := hf 4 _ rfl
    obtain ⟨y5, n5, h5⟩ := hf 5 _ rfl
    simp [cellsU64p, cellsI64p, cellsU8p, cellsNtp, cellsExs, cellsSl8] at h0 h1 h2 h3 h4 h5
    obtain ⟨kd, e0, _, w0⟩ := DataW.trod_int Tryd.underlying5 h0
    obtain ⟨nn, e1, _, w1⟩ := DataW.trod_int Tryd.underlying3 h1
    obtain ⟨l, v, m, st, po, pr, rd, rp, id, ref, org, rec, xmt, e2, _, _, _, _, _, _, g6, g7, g8, g9, g10, g11, g12⟩ := ntp_cells h2
    obtain ⟨no, e3, _, w3⟩ := DataW.trod_int Tryd.underlying22 h3
    obtain ⟨A, na, ca, L, e4, hL, hX, q1, q2, q3⟩ := cell_exts h4
    obtain ⟨B, nb, cb, bb, e5, hb, hB, q4, q5, q6, _⟩ := cell_bs (fun _ => rfl) h5
    simp at e0 e1 e2 e3
    obtain ⟨rfl, rfl, rfl, rfl, rfl, rfl, rfl, rfl, rfl, rfl, rfl, rfl, rfl⟩ := e2
    subst e0 e1 e3 e4 e5 hL hb
    exact ⟨(⟨kd, nn, l, v, m, st, po, pr, rd, rp, id, ref, org, rec, xmt, no, L, bb⟩, (A, ca), (B, cb)), rfl, ⟨hX, q1, q2, fun e => (q3 e).1⟩, hB, q4, q5, q6, ⟨g6, g7, g8, g9, g10, g11, g12, bounds_u64 w3⟩⟩
theorem open_ops {W : World} {base : Nat} {v : Value} {d : DataW H} {ps : List MemPlace} (hval : Value.okWide Tryd.prog W .any base 46 v) (h1 : DataW.Trod enc Tryd.prog W 0 (fun _ => true) true 46 v d ps) :
    ∃ (A : Option Addr) (n c : Nat) (T : List OpT), v = .slice A n c ∧ T.length = n ∧ Opl W W.heap.size A T ∧ n ≤ c ∧ c ≤ 9223372036854775807 ∧ ∀ j, j < n → OkW (opAt T j) := by
  obtain ⟨a1, len, cap, rfl⟩ := okWide_slice Tryd.underlying46 hval
  obtain ⟨fuel, hf⟩ := h1
  rcases Go.Deep.open_slice Tryd.underlying46 hf with ⟨hcs, hx⟩ | ⟨a, len', cap', m, n, D, Pl, hcs, _, hl, hm, hmm, hx, hcell⟩
  · simp [Value.cells] at hcs
    obtain ⟨rfl, rfl, rfl⟩ := hcs
    exact ⟨none, 0, 0, [], rfl, rfl, fun h => absurd h (by simp), Nat.le_refl _, by omega, fun j hj => absurd hj (by omega)⟩
  · simp [Value.cells] at hcs
    obtain ⟨rfl, rfl, rfl⟩ := hcs
    simp only [if_true] at hmm
    subst hmm
    rw [cellsOp] at hcell
    have each : ∀ i, i < m → ∃ q : OpT × (Option Addr × Nat) × (Option Addr × Nat), W.cells? 0 (a.add (i * 18)) 18 = some (opCt q.1 q.2.1.1 q.2.1.2 q.2.2.1 q.2.2.2) ∧ (Xs W W.heap.size q.2.1.1 q.1.L ∧ q.1.L.length ≤ q.2.1.2 ∧ q.2.1.2 ≤ 9223372036854775807 ∧ (q.2.1.1 = none → q.1.L.length = 0)) ∧ Bs W 0 W.heap.size q.2.2.1 q.1.b ∧ q.1.b.length ≤ q.2.2.2 ∧ q.2.2.2 ≤ 9223372036854775807 ∧ (q.2.2.1 = none → q.1.b.length = 0 ∧ q.2.2.2 = 0) ∧ OkW q.1 := fun i hi => by
      obtain ⟨cs', h1, h2⟩ := hcell i hi
      obtain ⟨q, rfl, b1⟩ := op_cells h2
      exact ⟨q, h1, b1⟩
    obtain ⟨q, hq⟩ := Go.Deep.choose_lt each
    obtain ⟨T, hT⟩ : ∃ T, T = (List.range len).map fun i => (q i).1 := ⟨_, rfl⟩
    have hTl : T.length = len := by rw [hT]; simp
    have hat : ∀ k, k < len → opAt T k = (q k).1 := fun k hk => by
      unfold opAt
      rw [hT, List.getD_eq_getElem?_getD, List.getElem?_map, List.getElem?_range hk]; rfl
    refine ⟨some a, len, m, T, rfl, hTl, fun hp => ?_, hl, by unfold maxLen at hm; exact hm, fun j hj => by rw [hat j hj]; exact (hq j (by omega)).2.2.2.2.2.2⟩
    rw [hTl] at hp
    obtain ⟨ab, ao, spot⟩ := a
    obtain ⟨_, _, hcl⟩ := World.cells?_some (hq 0 (by omega)).1
    have h0 := hcl 0 (by omega)
    have hspot : spot = none := by simpa [Addr.add] using World.cell?_spot h0
    subst hspot
    refine ⟨ab, ao, rfl, ?_, fun k hk => ?_⟩
    · have := World.block_lt_of_cell? W _ h0
      simpa [ofAdd] using this
    · rw [hTl] at hk
      obtain ⟨e1, b1, b2, b3, b4, b5, _⟩ := hq k (by omega)
      obtain ⟨hlen, _, hcl⟩ := World.cells?_some e1
      rw [hat k hk]
      refine ⟨(q k).2.1.1, (q k).2.1.2, (q k).2.2.1, (q k).2.2.2, fun j u hu => ?_, b1, b2, b3, b4, b5⟩
      have hj : j < 18 := by
        have := (List.getElem?_eq_some_iff.1 hu).1
        simpa using this
      have c0 := hcl j hj
      rw [hu, ofAdd, ofAdd] at c0
      exact c0
end
namespace lawRuns
set_option maxRecDepth 100000 in
theorem lifted (os : Os) (started : os.Started) (H : Type) (enc : TypeId × Value → H) :
    ReturnsInHanded {} Tryd.checked os 9 .any (fun w args => (Rows.guardRunsSpec.pre enc Tryd.prog Tryd.f9 [] false w args ∧ laidMet Tryd.prog laidR w) ∧ sizedMet enc Tryd.prog Tryd.f9 (OpenSpec.ofChange Rows.guardRunsSpec) false w args)
      (Rows.guardRunsSpec.post enc Tryd.prog Tryd.f9 false true false false) := by
  refine returnsInHanded_of_change_and (C := Tryd.checked) (X := fun w _ => laidMet Tryd.prog laidR w) (fun _ _ _ hh h => h.of_heap hh) own started (by kernel_rfl) Tryd.func9
    (ChangeSpec.witness_at (enc := enc) (C := Tryd.checked) (os := os) (X := fun w _ => laidMet Tryd.prog laidR w) false (laidWorld os) #[.agg #[.int .u64 0, .int .u64 0], .agg #[.int .u64 0, .int .u64 0], .int .u64 0, .int .u8 0, .slice none 0 0] 8 rfl (by kernel_rfl) (by kernel_rfl) (by kernel_rfl) (by kernel_rfl) (by kernel_rfl) (laidWorld_met os _)) ?_
  intro W base args ds gs before hval0 hW hcnd hsz0 hLd _
  have hval : ∀ (j : Nat) t v, Tryd.f9.params[j]? = some t → args[j]? = some v → Value.okWide Tryd.prog W .any base t v := hval0
  have hW' := hW
  have hRnd := rnd_of_laid hLd
  obtain ⟨p, q, hA0, hV, rfl, hfz, hnd⟩ := hW
  have hA : DataW.TrodAll enc Tryd.prog W 0 (fun _ => true) true Tryd.f9.params.toList args.toList ds p := hA0
  have hsz : (DataW.weightsEach Tryd.prog (Tryd.f9.params.toList ++ Rows.guardRunsSpec.plain.varTypes Tryd.prog) (ds ++ gs)).all (· ≤ reachBytes) = true := hsz0
  rw [Tryd.params9] at hA hval hsz
  obtain ⟨rfl, rfl⟩ := trodVars_none hV
  obtain ⟨v0, v1, v2, v3, v4, d0, d1, d2, d3, d4, p0, p1, p2, p3, p4, rfl, rfl, rfl, h0, h1, h2, h3, h4⟩ := trodAll_five hA
  obtain ⟨a, b, rfl, Ua, Ub⟩ := open_key (hval 0 29 v0 rfl rfl) h0
  obtain ⟨c, d, rfl, Uc, Ud⟩ := open_key (hval 1 29 v1 rfl rfl) h1
  obtain ⟨s, rfl, rfl, rfl, wf_s⟩ := open_int Tryd.underlying22 (hval 2 22 v2 rfl rfl) h2
  obtain ⟨f, rfl, rfl, rfl, wf_f⟩ := open_int Tryd.underlying5 (hval 3 5 v3 rfl rfl) h3
  obtain ⟨A, n, cc, T, rfl, hn, hO, hnc, hc, hT⟩ := open_ops (hval 4 46 v4 rfl rfl) h4
  refine (runs47 a b c d s f A n cc T W Ua Ub Uc Ud (bounds_u64 wf_s) (bounds_u8 wf_f) hn hO hT hnc hc hRnd).mono fun e W' ⟨he, hb⟩ => ?_
  subst he
  revert hb
  simp only [List.append_nil] at hW'
  intro hb
  exact ⟨_, rfl, law_post (tb := 4) laidOut Tryd.underlying4 rfl (by rw [Tryd.params9]; intro t ht; revert ht; revert t; exact of_decide_eq_true (by kernel_rfl)) rfl rfl rfl rfl hW' hb⟩
theorem over : Rows.guardRunsRow.holds Tryd.pinned (OpenSpec.ofChange Rows.guardRunsSpec) :=
  OpenClaim.holds_of_wide 9 Tryd.f9 rfl rfl rfl rfl rfl rfl rfl ⟨rfl, rfl, rfl, rfl, rfl⟩ rfl rfl rfl rfl rfl (by kernel_rfl) Tryd.func9 (by kernel_rfl)
    (of_decide_eq_true (by kernel_rfl)) (by unfold Func.isWrapper; first | (rw [if_pos (by decide +kernel)]; kernel_rfl) | (rw [if_neg (by decide +kernel)]; exact ⟨rfl, rfl⟩))
    (fun os started H enc _ => lifted os started H enc)
theorem proved : Rows.GuardRunsCardSaid :=
  Claim7.holds_tied_plain_at .later [] [.data] true Rows.guardRunsCard.stood.harness false
    over (fun _ h => by cases h) (by kernel_rfl) (fun _ h => by cases h) guardRuns_row_tie rfl ⟨rfl, rfl⟩ (by kernel_rfl) rfl
    (fun f fn hf hfn => by
      obtain rfl : f = 9 := Option.some.inj (hf.symm.trans (show Tryd.pinned.checked.prog.funcNamed Rows.guardRunsRow.func = some 9 by kernel_rfl))
      obtain rfl : fn = Tryd.f9 := (Option.some.inj (Tryd.func9.symm.trans hfn)).symm
      refine ⟨by kernel_rfl, fun j t ht => ?_⟩
      have hall : (Tryd.f9.params.toList.all fun t => !Tryd.pinned.checked.prog.wantsStandIn t) = true := by kernel_rfl
      have h1 := List.all_eq_true.1 hall t (Array.mem_toList_iff.2 (Array.mem_of_getElem? ht))
      simpa using h1)
    (by kernel_rfl)
#print axioms proved
end lawRuns
end Go.Proofs.YtachhbbofemfdaaDoor
