/- WireStops (P2.3): for every input the law returns true, and its arguments read afterwards as before. No condition. -/
import Derived.Test.YtaioikmgimffjaaWireAwake
import Derived.Test.YtaioikmgimffjaaOpen
import Derived.Test.YtaioikmgimffjaaCalls
namespace Go.Proofs.Ytaioikmgimffjaa
open Go.ChangeShapes Go.WideShapes Go.ChangeAt Go.RowKit Go.Joins
set_option linter.unusedSimpArgs false
set_option linter.unusedVariables false
theorem stopsLaw_long (A : Option Addr) (c : Nat) (l : List Int) (s n : Int) (P : Value) (w : World) (hl : 5000 < l.length) (hl2 : l.length ≤ 140737488351232) :
    Calls Try.prog 8 #[.slice A l.length c, .int .i64 s, .int .i64 n, P] w fun e w' => e = .returned (.bool true) ∧ Below w.heap.size w w' := by
  have hl' : (5000 : Int) < l.length := by omega
  have B0 : Below w.heap.size w w := Below.refl _ _
  go_enter Try.func8, Try.ntmps8
  go_wp2_with fail
  refine (awake_any _).mono ?_
  rintro e w1 ⟨rfl, hb⟩
  have B1 := (B0).trans (hb.mono (B0).size)
  clear hb
  go_wp2
  go_ret
  exact ⟨rfl, B1⟩
theorem tk_stop {e : Int} (he : e ≠ 0) (l : List Int) (n : Int) (v : Bool) : tkL l e n v = [] ∧ tkR l e n v = l ∧ tkE l e n v = e := by
  have hk : tkOk l e n v = false := by simp [tkOk, he]
  exact ⟨(tk_no hk).1, (tk_no hk).2, by simp [tkE, he]⟩
theorem tk_nS (l : List Int) (m : Nat) (h : m ≤ l.length) : tkL l 0 m (nnB m) = l.take m ∧ tkR l 0 m (nnB m) = l.drop m ∧ tkE l 0 m (nnB m) = 0 := by
  have hz : nnB (m : Int) = true := decide_eq_true (by omega)
  have hk : tkOk l 0 m (nnB m) = true := by rw [hz]; simp [tkOk]; omega
  refine ⟨(tk_yes hk).1, (tk_yes hk).2, ?_⟩
  rw [hz]; simp [tkE]; omega
theorem tk_over {l : List Int} {n : Int} (h : (l.length : Int) < n) : tkL l 0 n (nnB n) = [] ∧ tkR l 0 n (nnB n) = l ∧ tkE l 0 n (nnB n) = 5 := by
  have hz : nnB n = true := decide_eq_true (by omega)
  have hk : tkOk l 0 n (nnB n) = false := by rw [hz]; simp [tkOk]; omega
  refine ⟨(tk_no hk).1, (tk_no hk).2, ?_⟩
  rw [hz]; simp [tkE]; omega
theorem tk_neg {l : List Int} {n : Int} (h : n < 0) : tkL l 0 n (nnB n) = [] ∧ tkR l 0 n (nnB n) = l ∧ tkE l 0 n (nnB n) = 2 := by
  have hz : nnB n = false := decide_eq_false (by omega)
  have hk : tkOk l 0 n (nnB n) = false := by rw [hz]; simp [tkOk]
  refine ⟨(tk_no hk).1, (tk_no hk).2, ?_⟩
  rw [hz]; simp [tkE]
set_option maxHeartbeats 1000000 in
theorem stopsLaw_short (A B : Option Addr) (c nc cc : Nat) (l : List Int) (X Y : Nat → Int) (s n : Int) (w : World) (h : Bs w 0 w.heap.size A l) (hlc : l.length ≤ c) (hc63 : c ≤ 140737488351232) (hl : l.length ≤ 5000)
    (hs : -9223372036854775808 ≤ s ∧ s ≤ 9223372036854775807) (hn : -9223372036854775808 ≤ n ∧ n ≤ 9223372036854775807) (hP : Pr w 0 w.heap.size B nc X Y) (hncc : nc ≤ cc) (hcc : cc ≤ 9223372036854775807) :
    Calls Try.prog 8 #[.slice A l.length c, .int .i64 s, .int .i64 n, .slice B nc cc] w fun e w' => e = .returned (.bool true) ∧ Below w.heap.size w w' := by
  have hl' : (l.length : Int) ≤ 5000 := by omega
  have e1 : IntKind.u64.wrap ((l.length : Int) + 1) = l.length + 1 := by rw [IntKind.wrap_u64]; omega
  obtain ⟨m, hm1, hm2⟩ : ∃ m : Nat, wrap64 ((IntKind.u64.wrap s).tmod ((l.length : Int) + 1)) = m ∧ m ≤ l.length := by
    have e2 : 0 ≤ IntKind.u64.wrap s := by rw [IntKind.wrap_u64]; omega
    rw [Int.tmod_eq_emod_of_nonneg e2]
    have e3 := Int.emod_nonneg (IntKind.u64.wrap s) (show (l.length : Int) + 1 ≠ 0 by omega)
    have e4 := Int.emod_lt_of_pos (IntKind.u64.wrap s) (show (0 : Int) < (l.length : Int) + 1 by omega)
    refine ⟨((IntKind.u64.wrap s) % ((l.length : Int) + 1)).toNat, ?_, by omega⟩
    unfold wrap64; omega
  have hne : ((l.length : Int) + 1 == 0) = false := by simp; omega
  obtain ⟨L1, hL1⟩ : ∃ L1, L1 = l.drop m := ⟨_, rfl⟩
  have hlen1 : (L1.length : Int) = (l.length : Int) - m := by rw [hL1, List.length_drop]; omega
  obtain ⟨N, W, hW0, hN, hT⟩ : ∃ N W : Int, W ≠ 0 ∧ ((0 ≤ n ∧ N = (l.length : Int) - m + 1 + n % 1000 ∧ W = 5) ∨ (n < 0 ∧ N = n ∧ W = 2)) ∧ (tkL L1 0 N (nnB N) = [] ∧ tkR L1 0 N (nnB N) = L1 ∧ tkE L1 0 N (nnB N) = W) := by
    by_cases h0 : 0 ≤ n
    · exact ⟨(l.length : Int) - m + 1 + n % 1000, 5, by omega, .inl ⟨h0, rfl, rfl⟩, tk_over (by omega)⟩
    · exact ⟨n, 2, by omega, .inr ⟨by omega, rfl, rfl⟩, tk_neg (by omega)⟩
  have htm := tdm n 1000 (by decide)
  have htm1 : 0 ≤ n → 0 ≤ n.tmod 1000 ∧ n.tmod 1000 < 1000 := fun h0 => ⟨htm.2.1 h0, htm.2.2.2.1⟩
  clear htm
  have hW0' : (W != 0) = true := by simpa using hW0
  go_enter Try.func8, Try.ntmps8
  go_wp2_with fail
  have hE := newReader_any A l.length c 0 w.heap.size l w rfl h (Nat.le_refl _) (by omega)
  refine hE.mono ?_
  rintro e w1 ⟨g, rfl, hR1, hgz, B1⟩
  have hlo : w.heap.size ≤ g := by obtain ⟨_, _, _, _, _, _, _, _, h, _⟩ := hR1; omega
  clear hE hgz
  have hE := skip_any _ g l 0 m w1 hR1
  rw [(tk_nS l m hm2).2.1, (tk_nS l m hm2).2.2, ← hL1] at hE
  have hg1 := hR1.lt
  have z1 := B1.size
  go_wp2_with fail
  refine hE.mono ?_
  rintro e w2 ⟨rfl, hR2, hg2, s2⟩
  have B2 := B1.trans (but_below hg2 z1 hlo)
  have hg2' := hR2.lt
  clear hE hR1 B1 hg2
  have hE1 := left_any _ g L1 0 w2 hR2
  have hE2 := err_any _ g L1 0 w2 hR2
  rw [hlen1] at hE1
  have hE := bytes_any _ g L1 0 N w2 hR2 (by omega)
  rw [hT.1, hT.2.1, hT.2.2] at hE
  rcases hN with ⟨h0, rfl, rfl⟩ | ⟨h0, rfl, rfl⟩
  · skip
    go_wp2_with (first | (go_at_call 18; ((with_reducible refine (hE1).mono ?_); rintro e w1 ⟨rfl, rfl⟩)) | (go_at_call 19; ((with_reducible refine (hE2).mono ?_); rintro e w1 ⟨rfl, rfl⟩)))
    with_reducible refine hE.mono ?_
    rintro e w3 ⟨A3, c3, rfl, hO3, hR3, hg3, s3⟩
    have B3 := B2.trans (but_below hg3 B2.size hlo)
    have hg3' := hR3.lt
    clear hE hE1 hE2 hR2 B2 hg3 hO3
    have hE1 := left_any _ g L1 _ w3 hR3
    have hE2 := err_any _ g L1 _ w3 hR3
    rw [hlen1] at hE1
    go_wp2_with (first | (go_at_call 18; ((with_reducible refine (hE1).mono ?_); rintro e w1 ⟨rfl, rfl⟩)) | (go_at_call 19; ((with_reducible refine (hE2).mono ?_); rintro e w1 ⟨rfl, rfl⟩)) | (go_at_call 24; ((with_reducible refine (first_any B nc cc _ hncc hcc).mono ?_); rintro e w1 ⟨rfl, rfl⟩)))
    clear hE1 hE2
    go_loopw [73] (fun i wr => ∃ k : Nat, k ≤ min nc 200 ∧ i = .int .i64 k ∧ Rd wr w.heap.size g L1 5 ∧ Below w.heap.size w wr) (fun i _ => min nc 200 - (intOf i).toNat)
    case atStart => exact ⟨0, by omega, rfl, hR3, B3⟩
    case round =>
      obtain ⟨k, hk, rfl, hR, hB⟩ := hrel
      clear hR3 B3
      have hgr := hR.lt
      have hzr := hB.size
      by_cases hlt : k < min nc 200
      · obtain ⟨b, o, rfl, _, hb, hc⟩ := ((hP.below hB (Nat.le_refl _)).less (show min nc 200 ≤ nc by omega)) (by omega)
        obtain ⟨hcX, hcY, _, _⟩ := hc k hlt
        have hltI : (k : Int) < ((min nc 200 : Nat) : Int) := by omega
        have hnew := heap_alloc_new wr (.cells #[.int .i64 (X k), .int .i64 (Y k)] 47)
        have hR0 := hR.below ((Below.refl wr.heap.size wr).alloc (Nat.le_refl _) (.cells #[.int .i64 (X k), .int .i64 (Y k)] 47)) hgr
        have hq0 : (wr.alloc (.cells #[.int .i64 (X k), .int .i64 (Y k)] 47)).cell? ⟨wr.heap.size, 1, none⟩ = some (.int .i64 (Y k)) := cell_of_row _ _ 1 _ _ _ hnew
        have hB0 := hB.alloc hzr (.cells #[.int .i64 (X k), .int .i64 (Y k)] 47)
        have hE := skip_any _ g L1 5 (Y k) _ hR0
        rw [(tk_stop (by decide) L1 (Y k) (nnB (Y k))).2.1, (tk_stop (by decide) L1 (Y k) (nnB (Y k))).2.2] at hE
        have hgne : some wr.heap.size ≠ some g := by simp; omega
        clear hnew hc
        go_wp2_with fail
        with_reducible refine hE.mono ?_
        rintro e w5 ⟨rfl, hR5, hg5, s5⟩
        have hq5 := hg5.cell hq0 hgne
        have B5 := hB0.trans (but_below hg5 hB0.size hlo)
        clear hE hR0 hq0 hB0 hg5 hcX hcY
        have hE := uint_any _ g L1 5 (Y k) _ hR5
        rw [(tk_stop (by decide) L1 (Y k) (szB (Y k))).1, (tk_stop (by decide) L1 (Y k) (szB (Y k))).2.1, (tk_stop (by decide) L1 (Y k) (szB (Y k))).2.2, show numB [] = 0 from rfl] at hE
        go_wp2_with fail
        with_reducible refine hE.mono ?_
        rintro e w6 ⟨rfl, hR6, hg6, s6⟩
        have hq6 := hg6.cell hq5 hgne
        have B6 := B5.trans (but_below hg6 B5.size hlo)
        clear hE hR5 hq5 B5 hg6
        have hE := int_any _ g L1 5 (Y k) _ hR6
        rw [(tk_stop (by decide) L1 (Y k) (szB (Y k))).1, (tk_stop (by decide) L1 (Y k) (szB (Y k))).2.1, (tk_stop (by decide) L1 (Y k) (szB (Y k))).2.2, show intB [] = 0 from rfl] at hE
        go_wp2_with fail
        with_reducible refine hE.mono ?_
        rintro e w7 ⟨rfl, hR7, hg7, s7⟩
        have hq7 := hg7.cell hq6 hgne
        have B7 := B6.trans (but_below hg7 B6.size hlo)
        clear hE hR6 hq6 B6 hg7
        have hE := bytes_any _ g L1 5 (Y k) _ hR7 (by omega)
        rw [(tk_stop (by decide) L1 (Y k) (nnB (Y k))).1, (tk_stop (by decide) L1 (Y k) (nnB (Y k))).2.1, (tk_stop (by decide) L1 (Y k) (nnB (Y k))).2.2] at hE
        go_wp2_with fail
        with_reducible refine hE.mono ?_
        rintro e w8 ⟨A8, c8, rfl, hO8, hR8, hg8, s8⟩
        have B8 := B7.trans (but_below hg8 B7.size hlo)
        clear hE hR7 hq7 B7 hg8 hO8
        have hE1 := left_any _ g L1 5 w8 hR8
        have hE2 := err_any _ g L1 5 w8 hR8
        rw [hlen1] at hE1
        go_wp2_with (first | (go_at_call 18; ((with_reducible refine (hE1).mono ?_); rintro e w1 ⟨rfl, rfl⟩)) | (go_at_call 19; ((with_reducible refine (hE2).mono ?_); rintro e w1 ⟨rfl, rfl⟩)))
        exact ⟨⟨k + 1, by omega, by go_num, hR8, B8⟩, by simp [intOf]; omega⟩
      · obtain rfl : k = min nc 200 := by omega
        have hE := awake_any wr
        go_wp2_with fail
        with_reducible refine hE.mono ?_
        rintro e w9 ⟨rfl, hb9⟩
        have B9 := hB.trans (hb9.mono hzr)
        go_wp2
        go_ret
        exact ⟨rfl, B9⟩
  · skip
    go_wp2_with (first | (go_at_call 18; ((with_reducible refine (hE1).mono ?_); rintro e w1 ⟨rfl, rfl⟩)) | (go_at_call 19; ((with_reducible refine (hE2).mono ?_); rintro e w1 ⟨rfl, rfl⟩)))
    with_reducible refine hE.mono ?_
    rintro e w3 ⟨A3, c3, rfl, hO3, hR3, hg3, s3⟩
    have B3 := B2.trans (but_below hg3 B2.size hlo)
    have hg3' := hR3.lt
    clear hE hE1 hE2 hR2 B2 hg3 hO3
    have hE1 := left_any _ g L1 _ w3 hR3
    have hE2 := err_any _ g L1 _ w3 hR3
    rw [hlen1] at hE1
    go_wp2_with (first | (go_at_call 18; ((with_reducible refine (hE1).mono ?_); rintro e w1 ⟨rfl, rfl⟩)) | (go_at_call 19; ((with_reducible refine (hE2).mono ?_); rintro e w1 ⟨rfl, rfl⟩)) | (go_at_call 24; ((with_reducible refine (first_any B nc cc _ hncc hcc).mono ?_); rintro e w1 ⟨rfl, rfl⟩)))
    clear hE1 hE2
    go_loopw [73] (fun i wr => ∃ k : Nat, k ≤ min nc 200 ∧ i = .int .i64 k ∧ Rd wr w.heap.size g L1 2 ∧ Below w.heap.size w wr) (fun i _ => min nc 200 - (intOf i).toNat)
    case atStart => exact ⟨0, by omega, rfl, hR3, B3⟩
    case round =>
      obtain ⟨k, hk, rfl, hR, hB⟩ := hrel
      clear hR3 B3
      have hgr := hR.lt
      have hzr := hB.size
      by_cases hlt : k < min nc 200
      · obtain ⟨b, o, rfl, _, hb, hc⟩ := ((hP.below hB (Nat.le_refl _)).less (show min nc 200 ≤ nc by omega)) (by omega)
        obtain ⟨hcX, hcY, _, _⟩ := hc k hlt
        have hltI : (k : Int) < ((min nc 200 : Nat) : Int) := by omega
        have hnew := heap_alloc_new wr (.cells #[.int .i64 (X k), .int .i64 (Y k)] 47)
        have hR0 := hR.below ((Below.refl wr.heap.size wr).alloc (Nat.le_refl _) (.cells #[.int .i64 (X k), .int .i64 (Y k)] 47)) hgr
        have hq0 : (wr.alloc (.cells #[.int .i64 (X k), .int .i64 (Y k)] 47)).cell? ⟨wr.heap.size, 1, none⟩ = some (.int .i64 (Y k)) := cell_of_row _ _ 1 _ _ _ hnew
        have hB0 := hB.alloc hzr (.cells #[.int .i64 (X k), .int .i64 (Y k)] 47)
        have hE := skip_any _ g L1 2 (Y k) _ hR0
        rw [(tk_stop (by decide) L1 (Y k) (nnB (Y k))).2.1, (tk_stop (by decide) L1 (Y k) (nnB (Y k))).2.2] at hE
        have hgne : some wr.heap.size ≠ some g := by simp; omega
        clear hnew hc
        go_wp2_with fail
        with_reducible refine hE.mono ?_
        rintro e w5 ⟨rfl, hR5, hg5, s5⟩
        have hq5 := hg5.cell hq0 hgne
        have B5 := hB0.trans (but_below hg5 hB0.size hlo)
        clear hE hR0 hq0 hB0 hg5 hcX hcY
        have hE := uint_any _ g L1 2 (Y k) _ hR5
        rw [(tk_stop (by decide) L1 (Y k) (szB (Y k))).1, (tk_stop (by decide) L1 (Y k) (szB (Y k))).2.1, (tk_stop (by decide) L1 (Y k) (szB (Y k))).2.2, show numB [] = 0 from rfl] at hE
        go_wp2_with fail
        with_reducible refine hE.mono ?_
        rintro e w6 ⟨rfl, hR6, hg6, s6⟩
        have hq6 := hg6.cell hq5 hgne
        have B6 := B5.trans (but_below hg6 B5.size hlo)
        clear hE hR5 hq5 B5 hg6
        have hE := int_any _ g L1 2 (Y k) _ hR6
        rw [(tk_stop (by decide) L1 (Y k) (szB (Y k))).1, (tk_stop (by decide) L1 (Y k) (szB (Y k))).2.1, (tk_stop (by decide) L1 (Y k) (szB (Y k))).2.2, show intB [] = 0 from rfl] at hE
        go_wp2_with fail
        with_reducible refine hE.mono ?_
        rintro e w7 ⟨rfl, hR7, hg7, s7⟩
        have hq7 := hg7.cell hq6 hgne
        have B7 := B6.trans (but_below hg7 B6.size hlo)
        clear hE hR6 hq6 B6 hg7
        have hE := bytes_any _ g L1 2 (Y k) _ hR7 (by omega)
        rw [(tk_stop (by decide) L1 (Y k) (nnB (Y k))).1, (tk_stop (by decide) L1 (Y k) (nnB (Y k))).2.1, (tk_stop (by decide) L1 (Y k) (nnB (Y k))).2.2] at hE
        go_wp2_with fail
        with_reducible refine hE.mono ?_
        rintro e w8 ⟨A8, c8, rfl, hO8, hR8, hg8, s8⟩
        have B8 := B7.trans (but_below hg8 B7.size hlo)
        clear hE hR7 hq7 B7 hg8 hO8
        have hE1 := left_any _ g L1 2 w8 hR8
        have hE2 := err_any _ g L1 2 w8 hR8
        rw [hlen1] at hE1
        go_wp2_with (first | (go_at_call 18; ((with_reducible refine (hE1).mono ?_); rintro e w1 ⟨rfl, rfl⟩)) | (go_at_call 19; ((with_reducible refine (hE2).mono ?_); rintro e w1 ⟨rfl, rfl⟩)))
        exact ⟨⟨k + 1, by omega, by go_num, hR8, B8⟩, by simp [intOf]; omega⟩
      · obtain rfl : k = min nc 200 := by omega
        have hE := awake_any wr
        go_wp2_with fail
        with_reducible refine hE.mono ?_
        rintro e w9 ⟨rfl, hb9⟩
        have B9 := hB.trans (hb9.mono hzr)
        go_wp2
        go_ret
        exact ⟨rfl, B9⟩
theorem stopsLaw (A B : Option Addr) (c nc cc : Nat) (l : List Int) (X Y : Nat → Int) (s n : Int) (w : World) (h : Bs w 0 w.heap.size A l) (hlc : l.length ≤ c) (hc63 : c ≤ 140737488351232)
    (hs : -9223372036854775808 ≤ s ∧ s ≤ 9223372036854775807) (hn : -9223372036854775808 ≤ n ∧ n ≤ 9223372036854775807) (hP : Pr w 0 w.heap.size B nc X Y) (hncc : nc ≤ cc) (hcc : cc ≤ 9223372036854775807) :
    Calls Try.prog 8 #[.slice A l.length c, .int .i64 s, .int .i64 n, .slice B nc cc] w fun e w' => e = .returned (.bool true) ∧ Below w.heap.size w w' := by
  rcases Nat.lt_or_ge 5000 l.length with hl | hl
  · exact stopsLaw_long A c l s n _ w hl (by omega)
  · exact stopsLaw_short A B c nc cc l X Y s n w h hlc hc63 hl hs hn hP hncc hcc
namespace lawStops
set_option maxRecDepth 100000 in
theorem lifted (os : Os) (started : os.Started) (H : Type) (enc : TypeId × Value → H) :
    ReturnsInHanded {} Try.checked os 8 .any (Rows.wireStopsSpec.pre6 enc Try.prog Try.f8 Rows.wireStopsRow.domain false) (Rows.wireStopsSpec.post enc Try.prog Try.f8 false true false false) := by
  refine returnsInHanded_of_change_sized (C := Try.checked) own started (by kernel_rfl) Try.func8
    (ChangeSpec.witness6 (enc := enc) (C := Try.checked) false ⟨#[], #[.slice none 0 0, .int .i64 0, .int .i64 0, .slice none 0 0], []⟩ 8 (by kernel_rfl) (by kernel_rfl) (by kernel_rfl) (by kernel_rfl)) ?_
  intro W base args ds gs before hval0 hW hcnd hsz0 _
  have hval : ∀ (j : Nat) t v, Try.f8.params[j]? = some t → args[j]? = some v → Value.okWide Try.prog W .any base t v := hval0
  have hW' := hW
  obtain ⟨p, q, hA0, hV, rfl, hfz, hnd⟩ := hW
  have hA : DataW.TrodAll enc Try.prog W 0 (fun _ => true) true Try.f8.params.toList args.toList ds p := hA0
  have hsz : (DataW.weightsEach Try.prog (Try.f8.params.toList ++ Rows.wireStopsSpec.plain.varTypes Try.prog) (ds ++ gs)).all (· ≤ reachBytes) = true := hsz0
  rw [Try.params8] at hA hval hsz
  obtain ⟨rfl, rfl⟩ := trodVars_none hV
  obtain ⟨v0, v1, v2, v3, d0, d1, d2, d3, p0, p1, p2, p3, rfl, rfl, rfl, h0, h1, h2, h3⟩ := trodAll_four hA
  obtain ⟨B, nc, cc, X, Y, rfl, hP, hncc, hcc⟩ := open_calls (hval 3 42 v3 rfl rfl) h3
  obtain ⟨A, m, c, l, rfl, hn_l, hB_l, hc_l, hnil_l, hs_l⟩ := open_bs (hval 0 22 v0 rfl rfl) h0
  have hr_l := hs_l hsz (j := 0) rfl rfl
  subst hn_l
  obtain ⟨s, rfl, rfl, rfl, wf_s⟩ := open_int Try.underlying3 (hval 1 3 v1 rfl rfl) h1
  obtain ⟨n, rfl, rfl, rfl, wf_n⟩ := open_int Try.underlying3 (hval 2 3 v2 rfl rfl) h2
  refine (stopsLaw A B c nc cc l X Y s n W hB_l hc_l hr_l (bounds_i64 wf_s) (bounds_i64 wf_n) hP hncc hcc).mono fun e W' ⟨he, hb⟩ => ?_
  subst he
  revert hb
  simp only [List.append_nil] at hW'
  intro hb
  exact ⟨_, rfl, law_post (tb := 4) laidOut Try.underlying4 rfl (by rw [Try.params8]; intro t ht; revert ht; revert t; exact of_decide_eq_true (by kernel_rfl)) rfl rfl rfl rfl hW' hb⟩
theorem over : Rows.wireStopsRow.holds Try.pinned (OpenSpec.ofChange Rows.wireStopsSpec) :=
  OpenClaim.holds_of_wide 8 Try.f8 rfl rfl rfl rfl rfl rfl rfl ⟨rfl, rfl, rfl, rfl, rfl⟩ rfl rfl rfl rfl rfl (by kernel_rfl) Try.func8 (by kernel_rfl)
    (of_decide_eq_true (by kernel_rfl)) (by unfold Func.isWrapper; first | (rw [if_pos (by decide +kernel)]; kernel_rfl) | (rw [if_neg (by decide +kernel)]; exact ⟨rfl, rfl⟩))
    (fun os started H enc _ => lifted os started H enc)
theorem proved : Rows.WireStopsSaid :=
  over
#print axioms proved
end lawStops
end Go.Proofs.Ytaioikmgimffjaa
