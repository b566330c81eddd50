/- ServerRoots (P30.1, P30.6): for every input the law returns true, and its arguments read afterwards as before. No condition. -/
import Derived.Test.YtjclifjipphnkaaSvJ
namespace Go.Proofs.Ytjclifjipphnkaa
open Go.ChangeShapes Go.WideShapes Go.ChangeAt Go.RowKit Go.Joins
set_option linter.unusedSimpArgs false
set_option linter.unusedVariables false
set_option maxRecDepth 100000
theorem zeroRoot : (Try.prog.info? 29).map (·.zero) = some (some (.agg #[.int .i64 0, .int .i64 0, .int .i64 0, .int .u32 0])) := by kernel_rfl
theorem short_back {ns : Int} (h : shortErr ns = 0) : 0 ≤ longN (shortN ns) - ns ∧ longN (shortN ns) - ns ≤ 15259 := by
  unfold shortErr at h
  split at h
  · omega
  · unfold longN
    unfold shortN at *
    omega
set_option maxHeartbeats 4000000 in
theorem roots_err (st de di r s d p : Int) (w : World) (h1 : 0 ≤ st) (h1' : st ≤ 255) (h2 : 0 ≤ de) (h2' : de ≤ 18446744073709551615) (h3 : 0 ≤ di) (h3' : di ≤ 18446744073709551615) (hs0 : st % 16 + 1 = s) (hd0 : de / 65536 = d) (hp0 : di / 65536 = p) (g1 : 1 ≤ s) (g1' : s ≤ 16) (g2 : 0 ≤ d) (g2' : d ≤ 281474976710655) (g3 : 0 ≤ p) (g3' : p ≤ 281474976710655) (hf : fieldsErr s d p = 3)
    (hP : ∀ w : World, Calls Try.prog 9 #[ntp 0 4 3 0 0 0 0 0 0 0 0 0 0, .int .u64 0, .int .u64 0, .int .u64 0, root s d p r, .int .i64 0, .int .i64 0] w fun e w' => e = .returned (.tuple #[ntp0, .int .i64 3]) ∧ Below w.heap.size w w') :
    Calls Try.prog 4 #[.int .u8 st, .int .u64 de, .int .u64 di, .int .u32 r] w fun e w' => e = .returned (.bool true) ∧ Below w.heap.size w w' := by
  have hF := fun W => fields_any s d p r W
  simp only [hf] at hF
  clear hf
  go_enter Try.func4, Try.ntmps4
  go_wp2_with (first
    | (refine wpl_alloc (by rfl) 29 (by rfl) (.agg (rtL 0 0 0 0).toArray) (rtL 0 0 0 0) zeroRoot rfl ?_; intro w1 J1 s1 b1)
    | (refine wpl_store (by rfl) 29 _ _ (by rfl) w.heap.size (by rfl) _ (by rfl) (rtL s d p r) rfl 29 _ J1 (by rfl) _ sizeRoot (by rfl) (by simp [Value.oneCell']) ?_; intro w2 R2 s2 g2_)
    | (refine wpl_load (by rfl) 29 _ (by rfl) w.heap.size (by rfl) 29 _ R2 _ Try.underlying29 rfl _ sizeRoot (by rfl) ?_))
  have B2 := b1.trans (g2_.below (by omega) (Nat.le_refl _))
  have z2 := R2.lt
  clear J1 b1 g2_
  with_reducible refine (hP w2).mono ?_
  rintro e w3 ⟨rfl, b3⟩
  have R3 := R2.below b3 z2
  have B3 := B2.trans (b3.mono B2.size)
  have z3 := b3.size
  clear R2 B2 b3 hP
  go_wp2_with (first
    | (refine wpl_alloc (by rfl) 25 (by rfl) (.agg (zN).toArray) (zN) zeroNtp rfl ?_; intro w4 J4 s4 b4)
    | ((refine wpl_store (by rfl) 25 _ _ (by rfl) w3.heap.size (by rfl) _ (by rfl) _ rfl 25 _ J4 (by rfl) _ sizeNtp (by rfl) (by simp [Value.oneCell']) ?_; intro w5 J5 s5 g5); (have R5 := (R3.below b4 (by omega)).but g5 (by omega)))
    | (refine wpl_load (by rfl) 29 _ (by rfl) w.heap.size (by rfl) 29 _ R5 _ Try.underlying29 rfl _ sizeRoot (by rfl) ?_))
  have B5 := (B3.trans (b4.mono (by omega))).trans (g5.below (by omega) (by omega))
  clear R3 B3 b4 g5 J4 J5 R5
  with_reducible refine (hF w5).mono ?_
  rintro e w6 ⟨rfl, b6⟩
  have B6 := B5.trans (b6.mono B5.size)
  clear B5 b6 hF
  go_wp2_with fail
  with_reducible refine (awake_any _).mono ?_
  rintro e wa ⟨rfl, ba⟩
  have Ba := (B6).trans (ba.mono (B6).size)
  go_wp2
  go_ret
  exact ⟨rfl, Ba⟩
set_option maxHeartbeats 4000000 in
theorem roots_ok (st de di r s d p : Int) (w : World) (h1 : 0 ≤ st) (h1' : st ≤ 255) (h2 : 0 ≤ de) (h2' : de ≤ 18446744073709551615) (h3 : 0 ≤ di) (h3' : di ≤ 18446744073709551615) (hs0 : st % 16 + 1 = s) (hd0 : de / 65536 = d) (hp0 : di / 65536 = p) (g1 : 1 ≤ s) (g1' : s ≤ 16) (g2 : 0 ≤ d) (g2' : d ≤ 281474976710655) (g3 : 0 ≤ p) (g3' : p ≤ 281474976710655) (L S D Q la lb : Int) (hD : 0 ≤ D) (hD' : D ≤ 4294967295) (hQ : 0 ≤ Q) (hQ' : Q ≤ 4294967295) (hla : longN D = la) (hlb : longN Q = lb) (k1 : d ≤ la) (k2 : la ≤ d + 15259) (k3 : p ≤ lb) (k4 : lb ≤ p + 15259)
    (hP : ∀ w : World, Calls Try.prog 9 #[ntp 0 4 3 0 0 0 0 0 0 0 0 0 0, .int .u64 0, .int .u64 0, .int .u64 0, root s d p r, .int .i64 0, .int .i64 0] w fun e w' => e = .returned (.tuple #[ntp L 4 4 S 0 0 D Q r 0 0 0 0, .int .i64 0]) ∧ Below w.heap.size w w') :
    Calls Try.prog 4 #[.int .u8 st, .int .u64 de, .int .u64 di, .int .u32 r] w fun e w' => e = .returned (.bool true) ∧ Below w.heap.size w w' := by
  have hA := fun W => long_any D W hD hD'
  have hB := fun W => long_any Q W hQ hQ'
  rw [hla] at hA
  rw [hlb] at hB
  have m1 : IntKind.i64.wrap (la - d) = la - d := by rw [IntKind.wrap_i64]; omega
  have m2 : IntKind.i64.wrap (lb - p) = lb - p := by rw [IntKind.wrap_i64]; omega
  have M1 := Lib.hid m1
  have M2 := Lib.hid m2
  have n1 : decide (0 ≤ la - d) = true := decide_eq_true (by omega)
  have n2 : decide (0 ≤ lb - p) = true := decide_eq_true (by omega)
  have n3 : decide (la - d ≤ 15259) = true := decide_eq_true (by omega)
  have n4 : decide (lb - p ≤ 15259) = true := decide_eq_true (by omega)
  clear m1 m2 hla hlb
  go_enter Try.func4, Try.ntmps4
  go_wp2_with (first
    | (refine wpl_alloc (by rfl) 29 (by rfl) (.agg (rtL 0 0 0 0).toArray) (rtL 0 0 0 0) zeroRoot rfl ?_; intro w1 J1 s1 b1)
    | (refine wpl_store (by rfl) 29 _ _ (by rfl) w.heap.size (by rfl) _ (by rfl) (rtL s d p r) rfl 29 _ J1 (by rfl) _ sizeRoot (by rfl) (by simp [Value.oneCell']) ?_; intro w2 R2 s2 g2_)
    | (refine wpl_load (by rfl) 29 _ (by rfl) w.heap.size (by rfl) 29 _ R2 _ Try.underlying29 rfl _ sizeRoot (by rfl) ?_))
  have B2 := b1.trans (g2_.below (by omega) (Nat.le_refl _))
  have z2 := R2.lt
  clear J1 b1 g2_
  with_reducible refine (hP w2).mono ?_
  rintro e w3 ⟨rfl, b3⟩
  have R3 := R2.below b3 z2
  have B3 := B2.trans (b3.mono B2.size)
  have z3 := b3.size
  clear R2 B2 b3 hP
  go_wp2_with (first
    | (refine wpl_alloc (by rfl) 25 (by rfl) (.agg (zN).toArray) (zN) zeroNtp rfl ?_; intro w4 J4 s4 b4)
    | ((refine wpl_store (by rfl) 25 _ _ (by rfl) w3.heap.size (by rfl) _ (by rfl) _ rfl 25 _ J4 (by rfl) _ sizeNtp (by rfl) (by simp [Value.oneCell']) ?_; intro w5 J5 s5 g5); (have R5 := (R3.below b4 (by omega)).but g5 (by omega))))
  have B5 := (B3.trans (b4.mono (by omega))).trans (g5.below (by omega) (by omega))
  clear R3 B3 b4 g5 J4
  have c1 := J5.cell (i := 6) rfl
  have c2 := J5.cell (i := 7) rfl
  have c3 := R5.cell (i := 1) rfl
  have c4 := R5.cell (i := 2) rfl
  have m1 := M1.out
  have m2 := M2.out
  go_region_held3 (fun w' => w'.cell? ⟨w3.heap.size, 6, none⟩ = some (.int .u32 D) ∧ w'.cell? ⟨w3.heap.size, 7, none⟩ = some (.int .u32 Q) ∧ w'.cell? ⟨w.heap.size, 1, none⟩ = some (.int .i64 d) ∧ w'.cell? ⟨w.heap.size, 2, none⟩ = some (.int .i64 p)) (first | exact ⟨c1, c2, c3, c4⟩ | assumption) (first
    | (go_at_call 13; ((with_reducible refine (hA _).mono ?_); rintro e w1 ⟨rfl, rfl⟩))
    | (go_at_call 13; ((with_reducible refine (hB _).mono ?_); rintro e w1 ⟨rfl, rfl⟩)))
  have J6 := J5.drew
  have B6 := B5.drew
  clear c1 c2 c3 c4 J5 R5 B5 hA hB m1 m2
  go_wp2_with (first | (refine wpl_loadf (by rfl) 22 _ (by rfl) w3.heap.size 8 (by rfl) _ _ J6 _ rfl _ Try.underlying22 rfl ?_))
  with_reducible refine (awake_any _).mono ?_
  rintro e wa ⟨rfl, ba⟩
  have Ba := (B6).trans (ba.mono (B6).size)
  go_wp2
  go_ret
  exact ⟨rfl, Ba⟩
theorem rootsLaw (st de di r : Int) (w : World) (h1 : 0 ≤ st ∧ st ≤ 255) (h2 : 0 ≤ de ∧ de ≤ 18446744073709551615) (h3 : 0 ≤ di ∧ di ≤ 18446744073709551615) :
    Calls Try.prog 4 #[.int .u8 st, .int .u64 de, .int .u64 di, .int .u32 r] w fun e w' => e = .returned (.bool true) ∧ Below w.heap.size w w' := by
  obtain ⟨s, hs⟩ : ∃ s, st % 16 + 1 = s := ⟨_, rfl⟩
  obtain ⟨d, hd⟩ : ∃ d, de / 65536 = d := ⟨_, rfl⟩
  obtain ⟨p, hp⟩ : ∃ p, di / 65536 = p := ⟨_, rfl⟩
  have hc : chk s d p = 0 := by unfold chk; rw [if_pos (by omega)]
  have hE : rpE (nchk 0 4 3 0 0 0) 3 s d p 0 0 = 0 := by
    have hg : rgB 0 0 s d p = true := decide_eq_true ⟨by omega, by omega, by omega, by omega, hc⟩
    unfold rpE
    rw [if_pos hg]
    decide
  rcases fieldsErr_03 s d p with hf | hf
  · obtain ⟨_, hd0, hp0⟩ := fields_parts hf
    have a := short_rng hd0
    have b := short_rng hp0
    have a' := short_back hd0
    have b' := short_back hp0
    exact roots_ok st de di r s d p w h1.1 h1.2 h2.1 h2.2 h3.1 h3.2 hs hd hp (by omega) (by omega) (by omega) (by omega) (by omega) (by omega) _ _ _ _ _ _ a.1 a.2 b.1 b.2 rfl rfl (by omega) (by omega) (by omega) (by omega)
      (fun W => reply_ok 0 4 3 0 0 0 0 0 0 0 0 0 0 0 0 0 s d p r 0 0 W hE hf)
  · exact roots_err st de di r s d p w h1.1 h1.2 h2.1 h2.2 h3.1 h3.2 hs hd hp (by omega) (by omega) (by omega) (by omega) (by omega) (by omega) hf
      (fun W => reply_fe 0 4 3 0 0 0 0 0 0 0 0 0 0 0 0 0 s d p r 0 0 W hE hf)
namespace lawRoots
set_option maxRecDepth 100000 in
theorem lifted (os : Os) (started : os.Started) (H : Type) (enc : TypeId × Value → H) :
    ReturnsInHanded {} Try.checked os 4 .any (Rows.serverRootsSpec.pre6 enc Try.prog Try.f4 Rows.serverRootsRow.domain false) (Rows.serverRootsSpec.post enc Try.prog Try.f4 false true false false) := by
  refine returnsInHanded_of_change (C := Try.checked) own started (by kernel_rfl) Try.func4
    (ChangeSpec.witness6 (enc := enc) (C := Try.checked) false ⟨#[], #[.int .u8 0, .int .u64 0, .int .u64 0, .int .u32 0], []⟩ 8 (by kernel_rfl) (by kernel_rfl) (by kernel_rfl) (by kernel_rfl)) ?_
  intro W base args ds gs before hval0 hW hcnd _
  have hval : ∀ (j : Nat) t v, Try.f4.params[j]? = some t → args[j]? = some v → Value.okWide Try.prog W .any base t v := hval0
  have hW' := hW
  obtain ⟨p, q, hA0, hV, rfl, hfz, hnd⟩ := hW
  have hA : DataW.TrodAll enc Try.prog W 0 (fun _ => true) true Try.f4.params.toList args.toList ds p := hA0
  rw [Try.params4] at hA hval
  obtain ⟨rfl, rfl⟩ := trodVars_none hV
  obtain ⟨v0, v1, v2, v3, d0, d1, d2, d3, p0, p1, p2, p3, rfl, rfl, rfl, h0, h1, h2, h3⟩ := trodAll_four hA
  obtain ⟨st, rfl, rfl, rfl, wf_st⟩ := open_int Try.underlying5 (hval 0 5 v0 rfl rfl) h0
  obtain ⟨de, rfl, rfl, rfl, wf_de⟩ := open_int Try.underlying23 (hval 1 23 v1 rfl rfl) h1
  obtain ⟨di, rfl, rfl, rfl, wf_di⟩ := open_int Try.underlying23 (hval 2 23 v2 rfl rfl) h2
  obtain ⟨r, rfl, rfl, rfl, wf_r⟩ := open_int Try.underlying22 (hval 3 22 v3 rfl rfl) h3
  refine (rootsLaw st de di r W (bounds_u8 wf_st) (bounds_u64 wf_de) (bounds_u64 wf_di)).mono fun e W' ⟨he, hb⟩ => ?_
  subst he
  revert hb
  simp only [List.append_nil] at hW'
  intro hb
  exact ⟨_, rfl, law_post (tb := 4) laidOut Try.underlying4 rfl (by rw [Try.params4]; intro t ht; revert ht; revert t; exact of_decide_eq_true (by kernel_rfl)) rfl rfl rfl rfl hW' hb⟩
theorem over : Rows.serverRootsRow.holds Try.pinned (OpenSpec.ofChange Rows.serverRootsSpec) :=
  OpenClaim.holds_of_wide 4 Try.f4 rfl rfl rfl rfl rfl rfl rfl ⟨rfl, rfl, rfl, rfl, rfl⟩ rfl rfl rfl rfl rfl (by kernel_rfl) Try.func4 (by kernel_rfl)
    (of_decide_eq_true (by kernel_rfl)) (by unfold Func.isWrapper; first | (rw [if_pos (by decide +kernel)]; kernel_rfl) | (rw [if_neg (by decide +kernel)]; exact ⟨rfl, rfl⟩))
    (fun os started H enc _ => lifted os started H enc)
theorem proved : Rows.ServerRootsSaid :=
  over
#print axioms proved
end lawRoots
end Go.Proofs.Ytjclifjipphnkaa
