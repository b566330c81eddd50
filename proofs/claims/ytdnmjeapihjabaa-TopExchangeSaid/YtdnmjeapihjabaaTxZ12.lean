/- Associations: the numbers that Receive computes; reading, instant, New, Pending and their references. Associations: New, Send, Pending and their references. -/
import Derived.Test.YtdnmjeapihjabaaTxZ11
import Derived.Test.YtdnmjeapihjabaaTxZ3
import Derived.Test.YtdnmjeapihjabaaTxZ2
namespace Go.Proofs.Ytdnmjeapihjabaa
open Go.RowKit
set_option linter.unusedSimpArgs false
set_option linter.unusedVariables false
set_option maxRecDepth 100000
/-- is a reading within the limit -/
def rdB (n : Int) : Bool := decide (-4503599627370496 ≤ n ∧ n ≤ 4503599627370496)
theorem rdB_iff {n : Int} : rdB n = true ↔ -4503599627370496 ≤ n ∧ n ≤ 4503599627370496 := by simp [rdB]
def insT (s now : Int) : Int := tmV s (3900000000000000000 + now) - 3900000000000000000
def insB (s now : Int) : Bool := rdB (insT s now)
def insV (s now : Int) : Int := if insB s now then insT s now else 0
theorem ins_near {s now : Int} (h : rdB now = true) : -2160000000000000000 ≤ insT s now ∧ insT s now ≤ 2160000000000000000 := by
  obtain ⟨h1, h2⟩ := rdB_iff.1 h
  have hd := diffN_rng s (ofN (3900000000000000000 + now))
  have e : tmV s (3900000000000000000 + now) = nanosN (tmU s (3900000000000000000 + now)) := tmV_eq s _
  have hs := nanos_scale (tmU s (3900000000000000000 + now))
  have hu := unU_scale (3900000000000000000 + now)
  unfold insT
  rw [e]
  unfold tmU at hs ⊢
  omega
theorem ins_E {s now : Int} (h : rdB now = true) : tmE s (3900000000000000000 + now) = 0 := by
  obtain ⟨h1, h2⟩ := rdB_iff.1 h
  have hn := ins_near (s := s) h
  unfold insT at hn
  have m1 : maxT (3900000000000000000 + now) := by unfold maxT; omega
  have m2 : maxT (tmV s (3900000000000000000 + now)) := by unfold maxT; omega
  unfold tmE
  rw [if_pos m1, if_pos m2]
set_option maxHeartbeats 400000 in
theorem reading_any (n : Int) (w : World) : Calls Try.prog 18 #[.int .i64 n] w fun e w' => e = .returned (.bool (rdB n)) ∧ w = w' := by
  by_cases h1 : -4503599627370496 ≤ n <;> by_cases h2 : n ≤ 4503599627370496
  all_goals
    have hR : Hid (rdB n = decide (-4503599627370496 ≤ n ∧ n ≤ 4503599627370496)) := rfl
    go_enter Try.func18, Try.ntmps18
    go_wp2
    go_ret
    exact ⟨ret_bool (by rw [hR.out]; simp [*]), rfl⟩
set_option maxHeartbeats 1000000 in
theorem instant_any (s now : Int) (w : World) (h : rdB now = true) : Calls Try.prog 58 #[.int .u64 s, .int .i64 now] w fun e w' => e = .returned (.tuple #[.int .i64 (insV s now), .bool (insB s now)]) ∧ Below w.heap.size w w' := by
  obtain ⟨h1, h2⟩ := rdB_iff.1 h
  have hn := ins_near (s := s) h
  have hp : IntKind.i64.wrap (3900000000000000000 + now) = 3900000000000000000 + now := by rw [IntKind.wrap_i64]; omega
  have hE := fun W => time_any s (3900000000000000000 + now) W (by omega) (by omega)
  rw [ins_E h, z0_zero] at hE
  have hT : Hid (tmV s (3900000000000000000 + now) - 3900000000000000000 = insT s now) := rfl
  obtain ⟨T, hT'⟩ : ∃ T, T = tmV s (3900000000000000000 + now) := ⟨_, rfl⟩
  rw [← hT'] at hE hT
  have hTv : T = insT s now + 3900000000000000000 := by have := hT.out; omega
  clear hT hT'
  subst hTv
  have hw : IntKind.i64.wrap (insT s now + 3900000000000000000 - 3900000000000000000) = insT s now := by rw [IntKind.wrap_i64]; omega
  have hw' : insT s now + 3900000000000000000 - 3900000000000000000 = insT s now := by omega
  have hr := fun W => reading_any (insT s now) W
  cases hB : insB s now with
  | true =>
    have hV : Hid (insV s now = insT s now) := by show insV s now = _; unfold insV; rw [hB]; rfl
    have hB' : rdB (insT s now) = true := hB
    simp only [hB'] at hr
    clear hB hB'
    go_enter Try.func58, Try.ntmps58
    go_wp2_with fail
    with_reducible refine (hE _).mono ?_
    rintro e w1 ⟨rfl, b1⟩
    go_wp2_with fail
    with_reducible refine (hr _).mono ?_
    rintro e w2 ⟨rfl, rfl⟩
    go_wp2
    go_ret2
    exact ⟨tup2 (vint hV.out.symm) rfl, b1⟩
  | false =>
    have hV : Hid (insV s now = 0) := by show insV s now = _; unfold insV; rw [hB]; rfl
    have hB' : rdB (insT s now) = false := hB
    simp only [hB'] at hr
    clear hB hB'
    go_enter Try.func58, Try.ntmps58
    go_wp2_with fail
    with_reducible refine (hE _).mono ?_
    rintro e w1 ⟨rfl, b1⟩
    go_wp2_with fail
    with_reducible refine (hr _).mono ?_
    rintro e w2 ⟨rfl, rfl⟩
    go_wp2
    go_ret2
    exact ⟨tup2 (vint hV.out.symm) rfl, b1⟩
end Go.Proofs.Ytdnmjeapihjabaa
namespace Go.Proofs.Ytdnmjeapihjabaa
open Go.RowKit
set_option linter.unusedSimpArgs false
set_option linter.unusedVariables false
set_option maxRecDepth 100000
theorem sizeReq : (Try.prog.info? 63).map (·.size) = some 2 := by kernel_rfl
theorem sizeU64 : (Try.prog.info? 24).map (·.size) = some 1 := by kernel_rfl
theorem sizeBool : (Try.prog.info? 4).map (·.size) = some 1 := by kernel_rfl
def sendE (now n nc : Int) : Int := if rdB now = true then (if n = 0 then 2 else if n = nc then 10 else 0) else 3
theorem sendE_cases (now n nc : Int) : (rdB now = false ∧ sendE now n nc = 3) ∨ (rdB now = true ∧ n = 0 ∧ sendE now n nc = 2) ∨ (rdB now = true ∧ n ≠ 0 ∧ n = nc ∧ sendE now n nc = 10) ∨ (rdB now = true ∧ n ≠ 0 ∧ n ≠ nc ∧ sendE now n nc = 0) := by
  unfold sendE
  cases rdB now <;> by_cases h : n = 0 <;> by_cases h' : n = nc <;> simp [h, h'] <;> omega
abbrev asL (ver t1 nc : Int) (pd : Bool) (lx c0 c1 c2 c3 c4 c5 c6 c7 : Int) : List Value := [.int .i64 ver, .int .i64 t1, .int .u64 nc, .bool pd, .int .u64 lx, .int .i64 c0, .int .i64 c1, .int .i64 c2, .int .i64 c3, .int .i64 c4, .int .i64 c5, .int .i64 c6, .int .i64 c7]
set_option maxRecDepth 100000 in
set_option maxHeartbeats 1000000 in
theorem send_err (g : Nat) (ver t1 nc : Int) (pd : Bool) (lx c0 c1 c2 c3 c4 c5 c6 c7 now n : Int) (w : World) (H : Blk w g 66 (asL ver t1 nc pd lx c0 c1 c2 c3 c4 c5 c6 c7)) (hE : sendE now n nc ≠ 0) :
    Calls Try.prog 5 #[.pointer (some ⟨g, 0, none⟩), .int .i64 now, .int .u64 n] w fun e w' => e = .returned (.tuple #[ntp0, .int .i64 (sendE now n nc)]) ∧ Below w.heap.size w w' := by
  have hr := fun W => reading_any now W
  rcases sendE_cases now n nc with ⟨h1, h⟩ | ⟨h1, h2, h⟩ | ⟨h1, h2, h3, h⟩ | ⟨h1, h2, h3, h⟩
  · simp only [h1] at hr
    rw [h]
    clear h hE h1
    go_enter Try.func5, Try.ntmps5
    go_wp2_with (first | (refine wpl_alloc (by rfl) 29 (by rfl) (.agg (zN).toArray) (zN) zeroNtp rfl ?_; intro w1 J1 s1 b1) | (refine wpl_store (by rfl) 29 _ _ (by rfl) w.heap.size (by rfl) _ (by rfl) _ rfl 29 _ J1 (by rfl) _ sizeNtp (by rfl) (by simp [Value.oneCell']) ?_; intro w2 J2 s2 g2) | (go_at_call 18; ((with_reducible refine (hr _).mono ?_); rintro e w1 ⟨rfl, rfl⟩)))
    obtain ⟨k0, k1, k2, k3, k4, k5, k6, k7, k8, k9, k10, k11, k12⟩ := cells13 J2
    refine bodyPost_ret (v := .tuple #[ntp0, .int .i64 3]) (by simp [results, Try.results5, go_sem, k0, k1, k2, k3, k4, k5, k6, k7, k8, k9, k10, k11, k12]) rfl ?_
    exact ⟨rfl, b1.trans (g2.below (by omega) (Nat.le_refl _))⟩
  · subst h2
    simp only [h1] at hr
    rw [h]
    clear h hE h1
    go_enter Try.func5, Try.ntmps5
    go_wp2_with (first | (refine wpl_alloc (by rfl) 29 (by rfl) (.agg (zN).toArray) (zN) zeroNtp rfl ?_; intro w1 J1 s1 b1) | (refine wpl_store (by rfl) 29 _ _ (by rfl) w.heap.size (by rfl) _ (by rfl) _ rfl 29 _ J1 (by rfl) _ sizeNtp (by rfl) (by simp [Value.oneCell']) ?_; intro w2 J2 s2 g2) | (go_at_call 18; ((with_reducible refine (hr _).mono ?_); rintro e w1 ⟨rfl, rfl⟩)))
    obtain ⟨k0, k1, k2, k3, k4, k5, k6, k7, k8, k9, k10, k11, k12⟩ := cells13 J2
    refine bodyPost_ret (v := .tuple #[ntp0, .int .i64 2]) (by simp [results, Try.results5, go_sem, k0, k1, k2, k3, k4, k5, k6, k7, k8, k9, k10, k11, k12]) rfl ?_
    exact ⟨rfl, b1.trans (g2.below (by omega) (Nat.le_refl _))⟩
  · subst h3
    have h2' : (n == 0) = false := by simpa using h2
    simp only [h1] at hr
    rw [h]
    have hlt := H.lt
    clear h hE h1 h2
    go_enter Try.func5, Try.ntmps5
    go_wp2_with (first | ((refine wpl_alloc (by rfl) 29 (by rfl) (.agg (zN).toArray) (zN) zeroNtp rfl ?_; intro w1 J1 s1 b1); (have H1 := H.below b1 hlt)) | (refine wpl_store (by rfl) 29 _ _ (by rfl) w.heap.size (by rfl) _ (by rfl) _ rfl 29 _ J1 (by rfl) _ sizeNtp (by rfl) (by simp [Value.oneCell']) ?_; intro w2 J2 s2 g2) | (go_at_call 18; ((with_reducible refine (hr _).mono ?_); rintro e w1 ⟨rfl, rfl⟩)) | (refine wpl_loadf (by rfl) 24 _ (by rfl) g 2 (by rfl) _ _ H1 _ rfl _ Try.underlying24 rfl ?_))
    obtain ⟨k0, k1, k2, k3, k4, k5, k6, k7, k8, k9, k10, k11, k12⟩ := cells13 J2
    refine bodyPost_ret (v := .tuple #[ntp0, .int .i64 10]) (by simp [results, Try.results5, go_sem, k0, k1, k2, k3, k4, k5, k6, k7, k8, k9, k10, k11, k12]) rfl ?_
    exact ⟨rfl, b1.trans (g2.below (by omega) (Nat.le_refl _))⟩
  · exact absurd h hE
set_option maxRecDepth 100000 in
set_option maxHeartbeats 1000000 in
theorem send_ok (g : Nat) (ver t1 nc : Int) (pd : Bool) (lx c0 c1 c2 c3 c4 c5 c6 c7 now n : Int) (w : World) (H : Blk w g 66 (asL ver t1 nc pd lx c0 c1 c2 c3 c4 c5 c6 c7)) (hE : sendE now n nc = 0) :
    Calls Try.prog 5 #[.pointer (some ⟨g, 0, none⟩), .int .i64 now, .int .u64 n] w fun e w' => e = .returned (.tuple #[ntp 0 ver 3 0 0 0 0 0 0 0 0 0 n, .int .i64 0]) ∧ Blk w' g 66 (asL ver now n true lx c0 c1 c2 c3 c4 c5 c6 c7) ∧ But g w w' := by
  have hr := fun W => reading_any now W
  rcases sendE_cases now n nc with ⟨h1, h⟩ | ⟨h1, h2, h⟩ | ⟨h1, h2, h3, h⟩ | ⟨h1, h2, h3, h⟩
  · rw [h] at hE; cases hE
  · rw [h] at hE; cases hE
  · rw [h] at hE; cases hE
  · simp only [h1] at hr
    have h2' : (n == 0) = false := by simpa using h2
    have h3' : (n == nc) = false := by simpa using h3
    have hlt := H.lt
    clear h hE h1 h2 h3
    go_enter Try.func5, Try.ntmps5
    go_wp2_with (first
      | ((refine wpl_alloc (by rfl) 29 (by rfl) (.agg (zN).toArray) (zN) zeroNtp rfl ?_; intro w1 J1 s1 b1); (have H1 := H.below b1 hlt)) | (go_at_call 18; ((with_reducible refine (hr _).mono ?_); rintro e w1 ⟨rfl, rfl⟩)) | (refine wpl_loadf (by rfl) 24 _ (by rfl) g 2 (by rfl) _ _ H1 _ rfl _ Try.underlying24 rfl ?_)
      | ((refine wpl_storem (by rfl) 63 _ _ (by rfl) g 1 (by rfl) _ (by rfl) _ rfl _ _ (asL ver now n pd lx c0 c1 c2 c3 c4 c5 c6 c7) H1 _ sizeReq (by rfl) (by simp) (by rfl) (by simp [Value.oneCell']) ?_; intro w2 H2 s2 g2); (have J2 := J1.but g2 (by omega)))
      | ((refine wpl_storeg (by rfl) 4 _ _ (by rfl) g 3 (by rfl) (.bool true) (by rfl) (by rfl) (by simp [Value.oneCell']) _ _ (asL ver now n true lx c0 c1 c2 c3 c4 c5 c6 c7) H2 (by simp) sizeBool (by rfl) ?_; intro w3 H3 s3 g3); (have J3 := J2.but g3 (by omega)))
      | (refine wpl_loadf (by rfl) 3 _ (by rfl) g 0 (by rfl) _ _ H3 _ rfl _ Try.underlying3 rfl ?_)
      | ((refine wpl_store (by rfl) 29 _ _ (by rfl) w.heap.size (by rfl) _ (by rfl) _ rfl 29 _ J3 (by rfl) _ sizeNtp (by rfl) (by simp [Value.oneCell']) ?_; intro w4 J4 s4 g4); (have H4 := H3.but g4 (by omega))))
    obtain ⟨k0, k1, k2, k3, k4, k5, k6, k7, k8, k9, k10, k11, k12⟩ := cells13 J4
    refine bodyPost_ret (v := .tuple #[ntp 0 ver 3 0 0 0 0 0 0 0 0 0 n, .int .i64 0]) (by simp [results, Try.results5, go_sem, k0, k1, k2, k3, k4, k5, k6, k7, k8, k9, k10, k11, k12]) rfl ?_
    refine ⟨rfl, H4, ?_⟩
    exact (((But.of_below b1 (Nat.le_refl _)).trans g2).trans g3).new g4 (Nat.le_refl _)
/-- a new association -/
theorem new_no (v : Int) (w : World) (h : ¬(1 ≤ v ∧ v ≤ 4)) : Calls Try.prog 4 #[.int .i64 v] w fun e w' => e = .returned (.pointer none) ∧ w = w' := by
  by_cases h1 : v < 1
  · go_enter Try.func4, Try.ntmps4
    go_wp2
    go_ret
    exact ⟨rfl, rfl⟩
  · have h2 : 4 < v := by omega
    have h3 : 1 ≤ v := by omega
    clear h h1
    go_enter Try.func4, Try.ntmps4
    go_wp2
    go_ret
    exact ⟨rfl, rfl⟩
theorem new_ok (v : Int) (w : World) (h1 : 1 ≤ v) (h2 : v ≤ 4) : Calls Try.prog 4 #[.int .i64 v] w fun e w' => e = .returned (.pointer (some ⟨w.heap.size, 0, none⟩)) ∧ Blk w' w.heap.size 66 (asL v 0 0 false 0 0 0 0 0 0 0 0 0) ∧ Below w.heap.size w w' := by
  go_enter Try.func4, Try.ntmps4
  go_wp2_with (first | (refine wpl_box (by rfl) 66 _ (by rfl) _ (asL v 0 0 false 0 0 0 0 0 0 0 0 0) (by rfl) rfl ?_; intro w1 H1 s1 b1))
  go_ret
  exact ⟨rfl, H1, b1⟩
end Go.Proofs.Ytdnmjeapihjabaa
