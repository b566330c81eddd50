/- The first interval field of a list: what server.Interval and the reference's Interval compute. -/
import Derived.Test.YtjclifjipphnkaaSvM
namespace Go.Proofs.Ytjclifjipphnkaa
open Go.RowKit
set_option linter.unusedSimpArgs false
set_option linter.unusedVariables false
set_option maxRecDepth 100000
theorem first_or (L : List (Int × List Int)) (kd : Int) : ∀ n : Nat, NoK L kd n ∨ ∃ k, k < n ∧ kdL L k = kd ∧ NoK L kd k
  | 0 => .inl fun j hj => by omega
  | n + 1 => by
    rcases first_or L kd n with h | ⟨k, h1, h2, h3⟩
    · by_cases e : kdL L n = kd
      · exact .inr ⟨n, by omega, e, h⟩
      · exact .inl fun j hj => by
          rcases Nat.lt_or_ge j n with h1 | h1
          · exact h j h1
          · obtain rfl : j = n := by omega
            exact e
    · exact .inr ⟨k, by omega, h2, h3⟩
theorem first_one {L : List (Int × List Int)} {kd : Int} {k k' : Nat} (h1 : kdL L k = kd) (h2 : NoK L kd k) (h1' : kdL L k' = kd) (h2' : NoK L kd k') : k = k' := by
  rcases Nat.lt_trichotomy k k' with h | h | h
  · exact absurd h1 (h2' k h)
  · exact h
  · exact absurd h1' (h2 k' h)
theorem find_none (A : Option Addr) (c : Nat) (L : List (Int × List Int)) (n : Nat) (kd : Int) (w : World) (hn : L.length = n) (h : Xs w w.heap.size A L) (hnc : n ≤ c) (hc : c ≤ 9223372036854775807) (hsz : ∀ k, k < n → (dtL L k).length ≤ 140737488351232) (hN : NoK L kd n) :
    Calls Try.prog 45 #[.slice A n c, .int .i64 kd] w fun e w' => e = .returned (.tuple #[.slice none 0 0, .bool false]) ∧ Below w.heap.size w w' :=
  (find_any A c L n kd w hn h hnc hc hsz).mono fun e w' hh => by
    rcases hh with ⟨h1, _, h2⟩ | ⟨k, _, _, _, h1, h2, _⟩
    · exact ⟨h1, h2⟩
    · exact absurd h2 (hN k h1)
theorem find_some (A : Option Addr) (c : Nat) (L : List (Int × List Int)) (n k : Nat) (kd : Int) (w : World) (hn : L.length = n) (h : Xs w w.heap.size A L) (hnc : n ≤ c) (hc : c ≤ 9223372036854775807) (hsz : ∀ k, k < n → (dtL L k).length ≤ 140737488351232) (hk : k < n) (he : kdL L k = kd) (hN : NoK L kd k) :
    Calls Try.prog 45 #[.slice A n c, .int .i64 kd] w fun e w' => ∃ A' c', e = .returned (.tuple #[.slice A' (dtL L k).length c', .bool true]) ∧ Ow w' w.heap.size A' c' (dtL L k) ∧ Below w.heap.size w w' :=
  (find_any A c L n kd w hn h hnc hc hsz).mono fun e w' hh => by
    rcases hh with ⟨_, h2, _⟩ | ⟨k', A', c', h1, h2, h3, h4, h5, h6⟩
    · exact absurd he (h2.out k hk)
    · obtain rfl := first_one he hN h3 h4.out
      exact ⟨A', c', h1, h5, h6⟩
/-! ### the reference -/
set_option maxHeartbeats 4000000 in
theorem rinterval_none (A : Option Addr) (c : Nat) (L : List (Int × List Int)) (n : Nat) (w : World) (hn : L.length = n) (h : Xs w w.heap.size A L) (hnc : n ≤ c) (hc : c ≤ 9223372036854775807) (hN : NoK L 28929 n) :
    Calls Try.prog 21 #[.slice A n c] w fun e w' => e = .returned (.tuple #[.agg (ivL 0 0).toArray, .int .i64 11]) ∧ Below w.heap.size w w' := by
  have HN := Lib.hid hN
  clear hN
  go_enter Try.func21, Try.ntmps21
  go_wp2_with (first | (refine wpl_alloc (by rfl) 46 (by rfl) (.agg (ivL 0 0).toArray) (ivL 0 0) zeroIv rfl ?_; intro w1 J1 s1 b1))
  go_loop [4] (fun i => ∃ k : Nat, k ≤ n ∧ i = .int .i64 k) (fun i => n - (intOf i).toNat)
  case atStart => exact ⟨0, by omega, rfl⟩
  case round =>
    obtain ⟨k, hk, rfl⟩ := hrel
    by_cases hlt : k < n
    · obtain ⟨b, o, rfl, hbw, hx⟩ := (h.below b1 (Nat.le_refl _)) (by omega)
      obtain ⟨Ak, ck, hrg, hBk, hlc, hcm, hno⟩ := (hx k (by omega)).open
      have hi0 : (0 : Int) ≤ k := by omega
      have hi1 : (k : Int) < n := by omega
      have e0 : w1.cell? ⟨b, o + k * 2, none⟩ = some (.int .i64 (kdL L k)) := by simpa using range_cell hrg 0 rfl
      have he : (kdL L k == 28929) = false := by simpa using HN.out k hlt
      clear hx hrg
      go_wp2
      exact ⟨⟨k + 1, by omega, by go_num⟩, by simp [intOf]; omega⟩
    · obtain rfl : k = n := by omega
      go_wp2_with (first | (refine wpl_store (by rfl) 46 _ _ (by rfl) w.heap.size (by rfl) _ (by rfl) _ rfl 46 _ J1 (by rfl) _ sizeIv (by rfl) (by simp [Value.oneCell']) ?_; intro w2 J2 s2 g2))
      obtain ⟨k0, k1⟩ := cells2 J2
      refine bodyPost_ret (v := .tuple #[.agg (ivL 0 0).toArray, .int .i64 11]) (by simp [results, Try.results21, go_sem, k0, k1]) rfl ?_
      exact ⟨rfl, b1.trans (g2.below (by omega) (by omega))⟩
set_option maxHeartbeats 4000000 in
theorem rinterval_some (A : Option Addr) (c : Nat) (L : List (Int × List Int)) (n j : Nat) (w : World) (hn : L.length = n) (h : Xs w w.heap.size A L) (hnc : n ≤ c) (hc : c ≤ 9223372036854775807) (hj : j < n) (hjk : kdL L j = 28929) (hN : NoK L 28929 j) :
    Calls Try.prog 21 #[.slice A n c] w fun e w' => e = .returned (.tuple #[.agg (ivL (irA (dtL L j)) (irB (dtL L j))).toArray, .int .i64 (irE (dtL L j))]) ∧ Below w.heap.size w w' := by
  have HN := Lib.hid hN
  have HJ := Lib.hid hjk
  clear hN hjk
  go_enter Try.func21, Try.ntmps21
  go_wp2_with (first | (refine wpl_alloc (by rfl) 46 (by rfl) (.agg (ivL 0 0).toArray) (ivL 0 0) zeroIv rfl ?_; intro w1 J1 s1 b1))
  go_loop [4] (fun i => ∃ k : Nat, k ≤ j ∧ i = .int .i64 k) (fun i => n - (intOf i).toNat)
  case atStart => exact ⟨0, by omega, rfl⟩
  case round =>
    obtain ⟨k, hk, rfl⟩ := hrel
    obtain ⟨b, o, rfl, hbw, hx⟩ := (h.below b1 (Nat.le_refl _)) (by omega)
    obtain ⟨Ak, ck, hrg, hBk, hlc, hcm, hno⟩ := (hx k (by omega)).open
    have hi0 : (0 : Int) ≤ k := by omega
    have hi1 : (k : Int) < n := by omega
    have e0 : w1.cell? ⟨b, o + k * 2, none⟩ = some (.int .i64 (kdL L k)) := by simpa using range_cell hrg 0 rfl
    have e1 : w1.cell? ⟨b, o + k * 2 + 1, none⟩ = some (.slice Ak (dtL L k).length ck) := range_cell hrg 1 rfl
    clear hx hrg
    by_cases hlt : k < j
    · have he : (kdL L k == 28929) = false := by simpa using HN.out k hlt
      go_wp2
      exact ⟨⟨k + 1, by omega, by go_num⟩, by simp [intOf]; omega⟩
    · obtain rfl : k = j := by omega
      have he : (kdL L k == 28929) = true := by simpa using HJ.out
      have hE := read_any Ak ck w.heap.size (dtL L k) (dtL L k).length w1 rfl hBk (by omega) hlc hcm
      go_wp2_with fail
      with_reducible refine hE.mono ?_
      rintro e w2 ⟨rfl, b2⟩
      have J2 := J1.below b2 (by omega)
      have z2 := b2.size
      go_wp2_with (first | (refine wpl_store (by rfl) 46 _ _ (by rfl) w.heap.size (by rfl) _ (by rfl) _ rfl 46 _ J2 (by rfl) _ sizeIv (by rfl) (by simp [Value.oneCell']) ?_; intro w3 J3 s3 g3))
      obtain ⟨k0, k1⟩ := cells2 J3
      refine bodyPost_ret (v := .tuple #[.agg (ivL (irA (dtL L k)) (irB (dtL L k))).toArray, .int .i64 (irE (dtL L k))]) (by simp [results, Try.results21, go_sem, k0, k1]) rfl ?_
      exact ⟨rfl, (b1.trans (b2.mono (by omega))).trans (g3.below (by omega) (by omega))⟩
/-! ### the program -/
set_option maxHeartbeats 4000000 in
theorem interval_none (A : Option Addr) (c : Nat) (L : List (Int × List Int)) (n : Nat) (w : World) (hn : L.length = n) (h : Xs w w.heap.size A L) (hnc : n ≤ c) (hc : c ≤ 9223372036854775807) (hsz : ∀ k, k < n → (dtL L k).length ≤ 140737488351232) (hN : NoK L 28929 n) :
    Calls Try.prog 20 #[.slice A n c] w fun e w' => e = .returned (.tuple #[.agg (ivL 0 0).toArray, .int .i64 11]) ∧ Below w.heap.size w w' := by
  have hF := fun W H => find_none A c L n 28929 W hn H hnc hc hsz hN
  clear hN hsz
  go_enter Try.func20, Try.ntmps20
  go_wp2_with (first
    | (refine wpl_alloc (by rfl) 46 (by rfl) (.agg (ivL 0 0).toArray) (ivL 0 0) zeroIv rfl ?_; intro w1 J1 s1 b1)
    | (go_at_call 45; ((with_reducible refine (hF _ ((h.below b1 (Nat.le_refl _)).wide (by omega))).mono ?_); rintro e w2 ⟨rfl, b2⟩; (have J2 := J1.below b2 (by omega)); (have z2 := b2.size)))
      | (refine wpl_store (by rfl) 46 _ _ (by rfl) w.heap.size (by rfl) _ (by rfl) _ rfl 46 _ J2 (by rfl) _ sizeIv (by rfl) (by simp [Value.oneCell']) ?_; intro w3 J3 s3 g3))
  obtain ⟨k0, k1⟩ := cells2 J3
  refine bodyPost_ret (v := .tuple #[.agg (ivL 0 0).toArray, .int .i64 11]) (by simp [results, Try.results20, go_sem, k0, k1]) rfl ?_
  exact ⟨rfl, (b1.trans (b2.mono (by omega))).trans (g3.below (by omega) (by omega))⟩
set_option maxHeartbeats 4000000 in
theorem interval_some (A : Option Addr) (c : Nat) (L : List (Int × List Int)) (n j : Nat) (w : World) (hn : L.length = n) (h : Xs w w.heap.size A L) (hnc : n ≤ c) (hc : c ≤ 9223372036854775807) (hsz : ∀ k, k < n → (dtL L k).length ≤ 140737488351232) (hj : j < n) (hjk : kdL L j = 28929) (hN : NoK L 28929 j) :
    Calls Try.prog 20 #[.slice A n c] w fun e w' => e = .returned (.tuple #[.agg (ivL (irA (dtL L j)) (irB (dtL L j))).toArray, .int .i64 (irE (dtL L j))]) ∧ Below w.heap.size w w' := by
  have hF := fun W H => find_some A c L n j 28929 W hn H hnc hc hsz hj hjk hN
  generalize dtL L j = d at hF ⊢
  clear hN hsz hjk hj
  rcases irE_cases d with ⟨h1, h2, h3, h4⟩ | ⟨h1, h2, h3, h4, h5⟩ | ⟨h1, h2, h3, h4, h5⟩
  · rw [h2, h3, h4]
    have hne : ((d.length : Int) != 16) = true := by simp; omega
    clear h1 h2 h3 h4
    go_enter Try.func20, Try.ntmps20
    go_wp2_with (first
      | (refine wpl_alloc (by rfl) 46 (by rfl) (.agg (ivL 0 0).toArray) (ivL 0 0) zeroIv rfl ?_; intro w1 J1 s1 b1)
      | (go_at_call 45; ((with_reducible refine (hF _ ((h.below b1 (Nat.le_refl _)).wide (by omega))).mono ?_); rintro e w2 ⟨A2, c2, rfl, O2, b2⟩; (have J2 := J1.below b2 (by omega)); (have z2 := b2.size)))
          | (refine wpl_store (by rfl) 46 _ _ (by rfl) w.heap.size (by rfl) _ (by rfl) _ rfl 46 _ J2 (by rfl) _ sizeIv (by rfl) (by simp [Value.oneCell']) ?_; intro w3 J3 s3 g3))
    obtain ⟨k0, k1⟩ := cells2 J3
    refine bodyPost_ret (v := .tuple #[.agg (ivL 0 0).toArray, .int .i64 7]) (by simp [results, Try.results20, go_sem, k0, k1]) rfl ?_
    exact ⟨rfl, (b1.trans (b2.mono (by omega))).trans (g3.below (by omega) (by omega))⟩
  all_goals
    rw [h3, h4, h5]
    have hI := fun W => isInterval_any (ivLo d) (ivHi d) W
    simp only [h2] at hI
    rw [h1] at hF
    clear h2 h3 h4 h5
    go_enter Try.func20, Try.ntmps20
    go_wp2_with (first
      | (refine wpl_alloc (by rfl) 46 (by rfl) (.agg (ivL 0 0).toArray) (ivL 0 0) zeroIv rfl ?_; intro w1 J1 s1 b1)
      | (go_at_call 45; ((with_reducible refine (hF _ ((h.below b1 (Nat.le_refl _)).wide (by omega))).mono ?_); rintro e w2 ⟨A2, c2, rfl, O2, b2⟩; (have J2 := J1.below b2 (by omega)); (have z2 := b2.size))))
    have hcl := O2.cap_le
    have hcm2 := O2.cap_max
    rcases O2.form with ⟨_, e2, _⟩ | ⟨g, rfl, hg1, hg2⟩
    · rw [e2] at h1; simp at h1
    have hc16 : (16 : Int) ≤ c2 := by omega
    have hc8 : ¬ c2 = 8 := by omega
    have hc8' : (8 : Int) ≤ c2 := by omega
    have hb2 := O2.bs
    have hG1 : ∀ W C, Kp w2 [] W → Calls Try.prog 46 #[.slice (some ⟨g, 0, none⟩) 8 C] W fun e w' => e = .returned (.int .i64 (ivLo d)) ∧ W = w' := fun W C hK =>
      sget_any (some ⟨g, 0, none⟩) 8 C _ _ (d.take 8) W (by rw [List.length_take, h1]; rfl) ((hK.bs hb2 (Nat.le_refl _) (by simp)).take 8) (by rw [List.length_take]; omega)
    have hG2 : ∀ W C, Kp w2 [] W → Calls Try.prog 46 #[.slice (some ⟨g, 8, none⟩) 8 C] W fun e w' => e = .returned (.int .i64 (ivHi d)) ∧ W = w' := fun W C hK =>
      sget_any (some ⟨g, 8, none⟩) 8 C _ _ (d.drop 8) W (by rw [List.length_drop, h1]) (by have := (hK.bs hb2 (Nat.le_refl _) (by simp)).dropm 8; simpa [ofAdd] using this) (by rw [List.length_drop]; omega)
    have B2 := b1.trans (b2.mono (by omega))
    have K0 : Kp w2 [] w2.drew := (Kp.refl w2 []).drew
    clear hF h O2 b1 b2 hb2
    go_region_held3 (fun w' => Kp w2 [] w') ((repeat (with_reducible first | (refine Kp.set ?_ ?_; rotate_left; (with_reducible first | exact Or.inl (Nat.le_refl _) | exact Or.inr (List.mem_cons_self ..) | (refine Or.inl ?_; assumption) | (refine Or.inl (Kp.size ?_); assumption))) | refine Kp.drew ?_ | refine Kp.alloc _ ?_ | assumption | exact Kp.refl _ _ | exact Kp.belowS hb (by assumption) | exact Kp.but hg (by assumption) (Or.inr (List.mem_cons_self ..))))) (first
      | (go_at_call 46; ((with_reducible refine (hG1 _ _ (by assumption)).mono ?_); rintro e' wq ⟨rfl, rfl⟩))
      | (go_at_call 46; ((with_reducible refine (hG2 _ _ (by assumption)).mono ?_); rintro e' wq ⟨rfl, rfl⟩)))
    all_goals
      obtain ⟨W, hW⟩ : ∃ W, (w2.alloc (.cells #[.int .i64 (ivLo d), .int .i64 (ivHi d)] 46)).drew = W := ⟨_, rfl⟩
      have J3 : Blk W w2.heap.size 46 (ivL (ivLo d) (ivHi d)) := by rw [← hW]; exact (Blk.new w2 _ _ _ rfl).drew
      have K3 : Kp w2 [] W := by rw [← hW]; exact ((Kp.refl w2 []).alloc _).drew
      rw [hW]
      have J4 := K3.blk J2 (by simp)
      have B3 := K3.toBelow B2 (by omega) (by simp)
      have zW := K3.size
      have zJ := J3.lt
      clear hW K3 K0 hG1 hG2 J2 B2
      go_wp2_with (first
        | (refine wpl_load (by rfl) 46 _ (by rfl) w2.heap.size (by rfl) 46 _ J3 _ Try.underlying46 rfl _ sizeIv (by rfl) ?_)
        | (go_at_call 41; ((with_reducible refine (hI _).mono ?_); rintro e w4 ⟨rfl, b4⟩; (have J5 := J3.below b4 zJ); (have J6 := J4.below b4 (by omega)); (have z4 := b4.size)))
        | (refine wpl_load (by rfl) 46 _ (by rfl) w2.heap.size (by rfl) 46 _ J5 _ Try.underlying46 rfl _ sizeIv (by rfl) ?_)
        | (refine wpl_store (by rfl) 46 _ _ (by rfl) w.heap.size (by rfl) _ (by rfl) _ rfl 46 _ J6 (by rfl) _ sizeIv (by rfl) (by simp [Value.oneCell']) ?_; intro w5 J7 s7 g7))
      obtain ⟨k0, k1⟩ := cells2 J7
      first
        | (refine bodyPost_ret (v := .tuple #[.agg (ivL 0 0).toArray, .int .i64 2]) (by simp [results, Try.results20, go_sem, k0, k1]) rfl ?_; exact ⟨rfl, (B3.trans (b4.mono (by omega))).trans (g7.below (by omega) (by omega))⟩)
        | (refine bodyPost_ret (v := .tuple #[.agg (ivL (ivLo d) (ivHi d)).toArray, .int .i64 0]) (by simp [results, Try.results20, go_sem, k0, k1]) rfl ?_; exact ⟨rfl, (B3.trans (b4.mono (by omega))).trans (g7.below (by omega) (by omega))⟩)
end Go.Proofs.Ytjclifjipphnkaa
