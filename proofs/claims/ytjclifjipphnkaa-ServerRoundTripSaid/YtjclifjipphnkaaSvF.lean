/- What server.Field and its reference compute. -/
import Derived.Test.YtjclifjipphnkaaSvE
namespace Go.Proofs.Ytjclifjipphnkaa
open Go.RowKit
set_option linter.unusedSimpArgs false
set_option linter.unusedVariables false
set_option maxRecDepth 100000
def i64 (n : Int) : Int := wrap64 n
set_option maxHeartbeats 1000000 in
theorem sget_any (A : Option Addr) (n c lo hi : Nat) (l : List Int) (w : World) (hn : l.length = n) (h : Bs w lo hi A l) (hm : l.length ≤ 9223372036854775807) :
    Calls Try.prog 46 #[.slice A n c] w fun e w' => e = .returned (.int .i64 (i64 (numB l))) ∧ w = w' := by
  subst hn
  go_enter Try.func46, Try.ntmps46
  go_wp2
  go_loop [3, 8] (fun n i => ∃ k : Nat, k ≤ l.length ∧ i = .int .i64 k ∧ n = .int .u64 (numB (l.take k))) (fun _ i => l.length - (intOf i).toNat)
  case atStart => exact ⟨0, by omega, rfl, by simp [numB]⟩
  case round =>
    obtain ⟨k, hk, rfl, rfl⟩ := hrel
    by_cases hlt : k < l.length
    · obtain ⟨b, o, rfl, _, _, hc⟩ := h.at (by omega)
      have hck := hc k hlt
      have hby := h.byt.at k
      have hS := numB_succ l k hlt
      have hr := numB_range (l.take k)
      have hO := shl_or (numB (l.take k)) (atB l k) hr.1 hby
      have hw : IntKind.u64.wrap (atB l k) = atB l k := by rw [IntKind.wrap_u64]; omega
      go_wp2
      exact ⟨⟨k + 1, by omega, by go_num, by rw [hS]⟩, by simp [intOf]; omega⟩
    · obtain rfl : k = l.length := by omega
      go_wp2
      have hw2 : Hid (wrap64 (numB l) = i64 (numB l)) := rfl
      go_ret
      exact ⟨ret_int (by first | exact hw2.out | (rw [List.take_length]; exact hw2.out)), rfl⟩
abbrev exV (k : Int) (A : Option Addr) (n c : Nat) : Value := .agg #[.int .i64 k, .slice A n c]
abbrev exL (k : Int) (A : Option Addr) (n c : Nat) : List Value := [.int .i64 k, .slice A n c]
theorem cells2 {w : World} {g : Nat} {t : TypeId} {a0 a1 : Value} (h : Blk w g t [a0, a1]) : w.cell? ⟨g, 0, none⟩ = some a0 ∧ w.cell? ⟨g, 1, none⟩ = some a1 := ⟨h.cell rfl, h.cell rfl⟩
set_option maxHeartbeats 2000000 in
theorem field_no (a b : Int) (w : World) (h : ivB a b = false) : Calls Try.prog 18 #[.agg (ivL a b).toArray] w fun e w' => e = .returned (.tuple #[exV 0 none 0 0, .int .i64 2]) ∧ Below w.heap.size w w' := by
  have hI := fun W => isInterval_any a b W
  simp only [h] at hI
  clear h
  go_enter Try.func18, Try.ntmps18
  go_wp2_with (first
    | (refine wpl_box (by rfl) 46 _ (by rfl) _ (ivL a b) (by rfl) rfl ?_; intro w1 P1 s1 b1)
    | ((refine wpl_alloc (by rfl) 50 (by rfl) (.agg (exL 0 none 0 0).toArray) (exL 0 none 0 0) zeroExt rfl ?_; intro w2 J2 s2 b2); (have P2 := P1.below b2 (by omega)))
    | (refine wpl_load (by rfl) 46 _ (by rfl) w.heap.size (by rfl) 46 _ P2 _ Try.underlying46 rfl _ sizeIv (by rfl) ?_)
    | (go_at_call 41; ((with_reducible refine (hI _).mono ?_); rintro e w3 ⟨rfl, b3⟩; (have P3 := P2.below b3 (by omega)); (have J3 := J2.below b3 (by omega)); (have z3 := b3.size)))
    | (refine wpl_store (by rfl) 50 _ _ (by rfl) w1.heap.size (by rfl) _ (by rfl) _ rfl 50 _ J3 (by rfl) _ sizeExt (by rfl) (by simp [Value.oneCell']) ?_; intro w4 J4 s4 g4))
  obtain ⟨k0, k1⟩ := cells2 J4
  refine bodyPost_ret (v := .tuple #[exV 0 none 0 0, .int .i64 2]) (by simp [results, Try.results18, go_sem, k0, k1]) rfl ?_
  exact ⟨rfl, ((b1.trans (b2.mono (by omega))).trans (b3.mono (by omega))).trans (g4.below (by omega) (by omega))⟩
set_option maxHeartbeats 4000000 in
theorem field_ok (a b : Int) (w : World) (h : ivB a b = true) : Calls Try.prog 18 #[.agg (ivL a b).toArray] w fun e w' => ∃ g, e = .returned (.tuple #[exV 28929 (some ⟨g, 0, none⟩) 16 16, .int .i64 0]) ∧ Blk w' g 5 ((bytesB 8 (u64 a) ++ bytesB 8 (u64 b)).map (Value.int .u8)) ∧ w.heap.size ≤ g ∧ Below w.heap.size w w' := by
  have hI := fun W => isInterval_any a b W
  simp only [h] at hI
  have hmk : ∀ W : World, (Instr.makeSlice 48 (.int .i64 16) (.int .i64 16)).run Try.prog W = .ok (.slice (some ⟨W.heap.size, 0, none⟩) 16 16) (W.alloc (.cells (madeCells #[.int .u8 0] 16) 5)) := fun W => makeU8 .i64 .i64 16 (by omega) W
  clear h
  go_enter Try.func18, Try.ntmps18
  go_wp2_with (first
    | (refine wpl_box (by rfl) 46 _ (by rfl) _ (ivL a b) (by rfl) rfl ?_; intro w1 P1 s1 b1)
    | ((refine wpl_alloc (by rfl) 50 (by rfl) (.agg (exL 0 none 0 0).toArray) (exL 0 none 0 0) zeroExt rfl ?_; intro w2 J2 s2 b2); (have P2 := P1.below b2 (by omega)))
    | (refine wpl_load (by rfl) 46 _ (by rfl) w.heap.size (by rfl) 46 _ P2 _ Try.underlying46 rfl _ sizeIv (by rfl) ?_)
    | (go_at_call 41; ((with_reducible refine (hI _).mono ?_); rintro e w3 ⟨rfl, b3⟩; (have P3 := P2.below b3 (by omega)); (have J3 := J2.below b3 (by omega)); (have z3 := b3.size)))
    | (refine wpl_store (by rfl) 50 _ _ (by rfl) w1.heap.size (by rfl) _ (by rfl) _ rfl 50 _ J3 (by rfl) _ sizeExt (by rfl) (by simp [Value.oneCell']) ?_; intro w4 J4 s4 g4))
  obtain ⟨w4, hw4⟩ : ∃ w4, w4 = w3.alloc (.cells (madeCells #[.int .u8 0] 16) 5) := ⟨_, rfl⟩
  have M4 : Blk w4 w3.heap.size 5 (List.replicate 16 (.int .u8 0)) := by rw [hw4]; exact Blk.new w3 _ _ _ (by kernel_rfl)
  have b4 : Below w3.heap.size w3 w4 := by rw [hw4]; exact (Below.refl _ _).alloc (Nat.le_refl _) _
  have z4 := M4.lt
  rw [← hw4]
  have P4 := P3.below b4 (by omega)
  have J4 := J3.below b4 (by omega)
  have B4 := ((b1.trans (b2.mono (by omega))).trans (b3.mono (by omega))).trans (b4.mono (by omega))
  clear hw4 P3 J3 b1 b2 b3 b4 J2 P2 hmk hI
  have q1 : Kc w4 [w3.heap.size] w.heap.size 0 (.int .i64 a) := ⟨P4.cell rfl, by simp; omega⟩
  have q2 : Kc w4 [w3.heap.size] w.heap.size 1 (.int .i64 b) := ⟨P4.cell rfl, by simp; omega⟩
  have M4d := M4.drew
  go_region_held3 (fun w' => w'.cell? ⟨w.heap.size, 0, none⟩ = some (.int .i64 a) ∧ Kp w4 [w3.heap.size] w') (((try go_split_ands); (with_reducible refine kp1 ?_ q1); (repeat (with_reducible first | (refine Kp.set ?_ ?_; rotate_left; (with_reducible first | exact Or.inl (Nat.le_refl _) | exact Or.inr (List.mem_cons_self ..) | (refine Or.inl ?_; assumption) | (refine Or.inl (Kp.size ?_); assumption))) | refine Kp.drew ?_ | refine Kp.alloc _ ?_ | assumption | exact Kp.refl _ _ | exact Kp.belowS hb (by assumption) | exact Kp.but hg (by assumption) (Or.inr (List.mem_cons_self ..)))))) (first
    | (go_at_call 42; ((with_reducible refine (sput_any w3.heap.size 0 16 _ _ a _ M4d (by simp) (by omega)).mono ?_); rintro e w5 ⟨rfl, M5, hg⟩; (have K5 : Kp w4 [w3.heap.size] w5 := by (go_split_ands; exact Kp.but hg (by assumption) (.inr (List.mem_cons_self ..)))))))
  clear hg M4d
  go_wp2_with fail
  have q3 : Kc w5 [w3.heap.size] w.heap.size 1 (.int .i64 b) := ⟨kp_cell K5 q2, q2.2⟩
  have M5d := M5.drew
  go_region_held3 (fun w' => w'.cell? ⟨w.heap.size, 1, none⟩ = some (.int .i64 b) ∧ Kp w5 [w3.heap.size] w') (((try go_split_ands); (with_reducible refine kp1 ?_ q3); (repeat (with_reducible first | (refine Kp.set ?_ ?_; rotate_left; (with_reducible first | exact Or.inl (Nat.le_refl _) | exact Or.inr (List.mem_cons_self ..) | (refine Or.inl ?_; assumption) | (refine Or.inl (Kp.size ?_); assumption))) | refine Kp.drew ?_ | refine Kp.alloc _ ?_ | assumption | exact Kp.refl _ _ | exact Kp.belowS hb (by assumption) | exact Kp.but hg (by assumption) (Or.inr (List.mem_cons_self ..)))))) (first
    | (go_at_call 42; ((with_reducible refine (sput_any w3.heap.size 8 8 _ _ b _ M5d (by rw [ptC_len (by simp) (by omega)]; simp) (by omega)).mono ?_); rintro e w6 ⟨rfl, M6, hg⟩; (have K6 : Kp w5 [w3.heap.size] w6 := by (go_split_ands; exact Kp.but hg (by assumption) (.inr (List.mem_cons_self ..)))))))
  clear hg M5d
  have K46 := K5.trans K6
  have J6 := K46.blk J4 (by simp; omega)
  have B6 := K46.toBelow B4 (by omega) (by intro g hg; simp at hg; omega)
  have z6 := K46.size
  have hM : ptC (ptC (List.replicate 16 (Value.int .u8 0)) 0 (u64 a) 0) 8 (u64 b) 0 = (bytesB 8 (u64 a) ++ bytesB 8 (u64 b)).map (Value.int .u8) := by
    have l8 : ((bytesB 8 (u64 a)).map (Value.int .u8)).length = 8 := by rw [List.length_map, bytesB_length]
    unfold ptC
    simp only [List.drop_zero, List.take_zero, List.nil_append, Nat.zero_add, Nat.add_zero, List.map_append]
    rw [List.take_append_of_le_length (by omega), List.take_of_length_le (by omega), List.drop_of_length_le (i := 16) (by rw [List.length_append, List.length_drop, l8]; simp)]
    simp
  rw [hM] at M6
  clear hM q1 q2 q3 K5 K6 K46 M4 M5 P4 J4 B4
  go_wp2_with (first | (refine wpl_store (by rfl) 50 _ _ (by rfl) w1.heap.size (by rfl) _ (by rfl) (exL 28929 (some ⟨w3.heap.size, 0, none⟩) 16 16) rfl 50 _ J6 (by rfl) _ sizeExt (by rfl) (by simp [Value.oneCell']) ?_; intro w7 J7 s7 g7))
  have M7 := M6.but g7 (by omega)
  obtain ⟨k0, k1⟩ := cells2 J7
  refine bodyPost_ret (v := .tuple #[exV 28929 (some ⟨w3.heap.size, 0, none⟩) 16 16, .int .i64 0]) (by simp [results, Try.results18, go_sem, k0, k1]) rfl ?_
  exact ⟨w3.heap.size, rfl, M7, by omega, B6.trans (g7.below (by omega) (by omega))⟩
set_option maxHeartbeats 2000000 in
theorem rfield_no (a b : Int) (w : World) (h : ivB a b = false) : Calls Try.prog 19 #[.agg (ivL a b).toArray] w fun e w' => e = .returned (.tuple #[exV 0 none 0 0, .int .i64 2]) ∧ Below w.heap.size w w' := by
  have hI := fun W => ivcheck_any a b W
  simp only [ivE_no h] at hI
  clear h
  go_enter Try.func19, Try.ntmps19
  go_wp2_with (first
    | (refine wpl_box (by rfl) 46 _ (by rfl) _ (ivL a b) (by rfl) rfl ?_; intro w1 P1 s1 b1)
    | ((refine wpl_alloc (by rfl) 50 (by rfl) (.agg (exL 0 none 0 0).toArray) (exL 0 none 0 0) zeroExt rfl ?_; intro w2 J2 s2 b2); (have P2 := P1.below b2 (by omega)))
    | (refine wpl_load (by rfl) 46 _ (by rfl) w.heap.size (by rfl) 46 _ P2 _ Try.underlying46 rfl _ sizeIv (by rfl) ?_)
    | (go_at_call 43; ((with_reducible refine (hI _).mono ?_); rintro e w3 ⟨rfl, b3⟩; (have P3 := P2.below b3 (by omega)); (have J3 := J2.below b3 (by omega)); (have z3 := b3.size)))
    | (refine wpl_store (by rfl) 50 _ _ (by rfl) w1.heap.size (by rfl) _ (by rfl) _ rfl 50 _ J3 (by rfl) _ sizeExt (by rfl) (by simp [Value.oneCell']) ?_; intro w4 J4 s4 g4))
  obtain ⟨k0, k1⟩ := cells2 J4
  refine bodyPost_ret (v := .tuple #[exV 0 none 0 0, .int .i64 2]) (by simp [results, Try.results19, go_sem, k0, k1]) rfl ?_
  exact ⟨rfl, ((b1.trans (b2.mono (by omega))).trans (b3.mono (by omega))).trans (g4.below (by omega) (by omega))⟩
theorem u64_lt8 (n : Int) : u64 n < 256 ^ 8 := by have := u64_rng n; omega
set_option maxHeartbeats 2000000 in
theorem rfield_ok (a b : Int) (w : World) (h : ivB a b = true) : Calls Try.prog 19 #[.agg (ivL a b).toArray] w fun e w' => ∃ A c, e = .returned (.tuple #[exV 28929 A 16 c, .int .i64 0]) ∧ Bs w' w.heap.size w'.heap.size A (bytesB 8 (u64 a) ++ bytesB 8 (u64 b)) ∧ Below w.heap.size w w' := by
  have hI := fun W => ivcheck_any a b W
  have hE : ivE a b = 0 := if_pos h
  simp only [hE] at hI
  have ha : IntKind.u64.wrap a = u64 a := IntKind.wrap_u64 a
  have hb : IntKind.u64.wrap b = u64 b := IntKind.wrap_u64 b
  have hR1 : ∀ W : World, Calls Try.prog 44 #[.slice none 0 0, .int .u64 (u64 a), .int .i64 8] W fun e w' => ∃ A' c', e = .returned (.tuple #[.slice A' 8 c', .int .i64 0]) ∧ Ow w' W.heap.size A' c' (bytesB 8 (u64 a)) ∧ W.heap.size ≤ w'.heap.size ∧ Below W.heap.size W w' :=
    fun W => rappend_ok none 0 0 0 0 [] (u64 a) 8 W rfl Bs.nil (Nat.zero_le _) (by omega) (u64_rng a) (by omega) (by omega) (u64_lt8 a)
  have hR2 : ∀ (W : World) (A : Option Addr) (c lo hi : Nat), Bs W lo hi A (bytesB 8 (u64 a)) → hi ≤ W.heap.size → Calls Try.prog 44 #[.slice A 8 c, .int .u64 (u64 b), .int .i64 8] W fun e w' => ∃ A' c', e = .returned (.tuple #[.slice A' 16 c', .int .i64 0]) ∧ Ow w' W.heap.size A' c' (bytesB 8 (u64 a) ++ bytesB 8 (u64 b)) ∧ W.heap.size ≤ w'.heap.size ∧ Below W.heap.size W w' :=
    fun W A c lo hi hB hh => rappend_ok A 8 c lo hi (bytesB 8 (u64 a)) (u64 b) 8 W (bytesB_length 8 _) hB hh (by omega) (u64_rng b) (by omega) (by omega) (u64_lt8 b)
  clear h hE
  go_enter Try.func19, Try.ntmps19
  go_wp2_with (first
    | (refine wpl_box (by rfl) 46 _ (by rfl) _ (ivL a b) (by rfl) rfl ?_; intro w1 P1 s1 b1)
    | ((refine wpl_alloc (by rfl) 50 (by rfl) (.agg (exL 0 none 0 0).toArray) (exL 0 none 0 0) zeroExt rfl ?_; intro w2 J2 s2 b2); (have P2 := P1.below b2 (by omega)))
    | (refine wpl_load (by rfl) 46 _ (by rfl) w.heap.size (by rfl) 46 _ P2 _ Try.underlying46 rfl _ sizeIv (by rfl) ?_)
    | (go_at_call 43; ((with_reducible refine (hI _).mono ?_); rintro e w3 ⟨rfl, b3⟩; (have P3 := P2.below b3 (by omega)); (have J3 := J2.below b3 (by omega)); (have z3 := b3.size)))
    | (refine wpl_loadf (by rfl) 3 _ (by rfl) w.heap.size 0 (by rfl) _ _ P3 _ rfl _ Try.underlying3 rfl ?_)
      | (go_at_call 44; ((with_reducible refine (hR1 _).mono ?_); rintro e w4 ⟨A4, c4, rfl, O4, z4, b4⟩; (have P4 := P3.below b4 (by omega)); (have J4 := J3.below b4 (by omega))))
      | (refine wpl_loadf (by rfl) 3 _ (by rfl) w.heap.size 1 (by rfl) _ _ P4 _ rfl _ Try.underlying3 rfl ?_)
      | (go_at_call 44; ((with_reducible refine (hR2 _ A4 c4 _ _ O4.bs (Nat.le_refl _)).mono ?_); rintro e w5 ⟨A5, c5, rfl, O5, z5, b5⟩; (have P5 := P4.below b5 (by omega)); (have J5 := J4.below b5 (by omega))))
      | (refine wpl_store (by rfl) 50 _ _ (by rfl) w1.heap.size (by rfl) _ (by rfl) (exL 28929 A5 16 c5) rfl 50 _ J5 (by rfl) _ sizeExt (by rfl) (by simp [Value.oneCell']) ?_; intro w7 J7 s7 g7))
  have B5 := (((b1.trans (b2.mono (by omega))).trans (b3.mono (by omega))).trans (b4.mono (by omega))).trans (b5.mono (by omega))
  have O7 := (O5.bs.grown g7 (Nat.le_refl _) (by intro g hg; simp at hg; omega)).wide (lo' := w.heap.size) (hi' := w7.heap.size) (by omega) s7
  obtain ⟨k0, k1⟩ := cells2 J7
  refine bodyPost_ret (v := .tuple #[exV 28929 A5 16 c5, .int .i64 0]) (by simp [results, Try.results19, go_sem, k0, k1]) rfl ?_
  exact ⟨A5, c5, rfl, O7, B5.trans (g7.below (by omega) (by omega))⟩
end Go.Proofs.Ytjclifjipphnkaa
