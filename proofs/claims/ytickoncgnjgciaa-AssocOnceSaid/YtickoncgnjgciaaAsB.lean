/- Associations: New, Send, Pending and their references. -/
import Derived.Test.YtickoncgnjgciaaAsA
namespace Go.Proofs.Ytickoncgnjgciaa
open Go.RowKit
set_option linter.unusedSimpArgs false
set_option linter.unusedVariables false
theorem sizeReq : (Try.prog.info? 54).map (·.size) = some 2 := by kernel_rfl
theorem sizeI64 : (Try.prog.info? 3).map (·.size) = some 1 := by kernel_rfl
theorem sizeU64 : (Try.prog.info? 28).map (·.size) = some 1 := by kernel_rfl
theorem sizeBool : (Try.prog.info? 4).map (·.size) = some 1 := by kernel_rfl
def sendE (now n nc : Int) : Int := if rdB now = true then (if n = 0 then 2 else if n = nc then 10 else 0) else 3
theorem sendE_cases (now n nc : Int) : (rdB now = false ∧ sendE now n nc = 3) ∨ (rdB now = true ∧ n = 0 ∧ sendE now n nc = 2) ∨ (rdB now = true ∧ n ≠ 0 ∧ n = nc ∧ sendE now n nc = 10) ∨ (rdB now = true ∧ n ≠ 0 ∧ n ≠ nc ∧ sendE now n nc = 0) := by
  unfold sendE
  cases rdB now <;> by_cases h : n = 0 <;> by_cases h' : n = nc <;> simp [h, h'] <;> omega
abbrev ntp0 : Value := ntp 0 0 0 0 0 0 0 0 0 0 0 0 0
abbrev asL (ver t1 nc : Int) (pd : Bool) (lx c0 c1 c2 c3 c4 c5 c6 c7 : Int) : List Value := [.int .i64 ver, .int .i64 t1, .int .u64 nc, .bool pd, .int .u64 lx, .int .i64 c0, .int .i64 c1, .int .i64 c2, .int .i64 c3, .int .i64 c4, .int .i64 c5, .int .i64 c6, .int .i64 c7]
set_option maxRecDepth 100000 in
set_option maxHeartbeats 1000000 in
theorem send_err (g : Nat) (ver t1 nc : Int) (pd : Bool) (lx c0 c1 c2 c3 c4 c5 c6 c7 now n : Int) (w : World) (H : Blk w g 57 (asL ver t1 nc pd lx c0 c1 c2 c3 c4 c5 c6 c7)) (hE : sendE now n nc ≠ 0) :
    Calls Try.prog 12 #[.pointer (some ⟨g, 0, none⟩), .int .i64 now, .int .u64 n] w fun e w' => e = .returned (.tuple #[ntp0, .int .i64 (sendE now n nc)]) ∧ Below w.heap.size w w' := by
  have hr := fun W => reading_any now W
  rcases sendE_cases now n nc with ⟨h1, h⟩ | ⟨h1, h2, h⟩ | ⟨h1, h2, h3, h⟩ | ⟨h1, h2, h3, h⟩
  · simp only [h1] at hr
    rw [h]
    clear h hE h1
    go_enter Try.func12, Try.ntmps12
    go_wp2_with (first | (refine wpl_alloc (by rfl) 31 (by rfl) (.agg (zN).toArray) (zN) zeroNtp rfl ?_; intro w1 J1 s1 b1) | (refine wpl_store (by rfl) 31 _ _ (by rfl) w.heap.size (by rfl) _ (by rfl) _ rfl 31 _ J1 (by rfl) _ sizeNtp (by rfl) (by simp [Value.oneCell']) ?_; intro w2 J2 s2 g2) | (go_at_call 25; ((with_reducible refine (hr _).mono ?_); rintro e w1 ⟨rfl, rfl⟩)))
    obtain ⟨k0, k1, k2, k3, k4, k5, k6, k7, k8, k9, k10, k11, k12⟩ := cells13 J2
    refine bodyPost_ret (v := .tuple #[ntp0, .int .i64 3]) (by simp [results, Try.results12, go_sem, k0, k1, k2, k3, k4, k5, k6, k7, k8, k9, k10, k11, k12]) rfl ?_
    exact ⟨rfl, b1.trans (g2.below (by omega) (Nat.le_refl _))⟩
  · subst h2
    simp only [h1] at hr
    rw [h]
    clear h hE h1
    go_enter Try.func12, Try.ntmps12
    go_wp2_with (first | (refine wpl_alloc (by rfl) 31 (by rfl) (.agg (zN).toArray) (zN) zeroNtp rfl ?_; intro w1 J1 s1 b1) | (refine wpl_store (by rfl) 31 _ _ (by rfl) w.heap.size (by rfl) _ (by rfl) _ rfl 31 _ J1 (by rfl) _ sizeNtp (by rfl) (by simp [Value.oneCell']) ?_; intro w2 J2 s2 g2) | (go_at_call 25; ((with_reducible refine (hr _).mono ?_); rintro e w1 ⟨rfl, rfl⟩)))
    obtain ⟨k0, k1, k2, k3, k4, k5, k6, k7, k8, k9, k10, k11, k12⟩ := cells13 J2
    refine bodyPost_ret (v := .tuple #[ntp0, .int .i64 2]) (by simp [results, Try.results12, go_sem, k0, k1, k2, k3, k4, k5, k6, k7, k8, k9, k10, k11, k12]) rfl ?_
    exact ⟨rfl, b1.trans (g2.below (by omega) (Nat.le_refl _))⟩
  · subst h3
    have h2' : (n == 0) = false := by simpa using h2
    simp only [h1] at hr
    rw [h]
    have hlt := H.lt
    clear h hE h1 h2
    go_enter Try.func12, Try.ntmps12
    go_wp2_with (first | ((refine wpl_alloc (by rfl) 31 (by rfl) (.agg (zN).toArray) (zN) zeroNtp rfl ?_; intro w1 J1 s1 b1); (have H1 := H.below b1 hlt)) | (refine wpl_store (by rfl) 31 _ _ (by rfl) w.heap.size (by rfl) _ (by rfl) _ rfl 31 _ J1 (by rfl) _ sizeNtp (by rfl) (by simp [Value.oneCell']) ?_; intro w2 J2 s2 g2) | (go_at_call 25; ((with_reducible refine (hr _).mono ?_); rintro e w1 ⟨rfl, rfl⟩)) | (refine wpl_loadf (by rfl) 28 _ (by rfl) g 2 (by rfl) _ _ H1 _ rfl _ Try.underlying28 rfl ?_))
    obtain ⟨k0, k1, k2, k3, k4, k5, k6, k7, k8, k9, k10, k11, k12⟩ := cells13 J2
    refine bodyPost_ret (v := .tuple #[ntp0, .int .i64 10]) (by simp [results, Try.results12, go_sem, k0, k1, k2, k3, k4, k5, k6, k7, k8, k9, k10, k11, k12]) rfl ?_
    exact ⟨rfl, b1.trans (g2.below (by omega) (Nat.le_refl _))⟩
  · exact absurd h hE
set_option maxRecDepth 100000 in
set_option maxHeartbeats 1000000 in
theorem send_ok (g : Nat) (ver t1 nc : Int) (pd : Bool) (lx c0 c1 c2 c3 c4 c5 c6 c7 now n : Int) (w : World) (H : Blk w g 57 (asL ver t1 nc pd lx c0 c1 c2 c3 c4 c5 c6 c7)) (hE : sendE now n nc = 0) :
    Calls Try.prog 12 #[.pointer (some ⟨g, 0, none⟩), .int .i64 now, .int .u64 n] w fun e w' => e = .returned (.tuple #[ntp 0 ver 3 0 0 0 0 0 0 0 0 0 n, .int .i64 0]) ∧ Blk w' g 57 (asL ver now n true lx c0 c1 c2 c3 c4 c5 c6 c7) ∧ But g w w' := by
  have hr := fun W => reading_any now W
  rcases sendE_cases now n nc with ⟨h1, h⟩ | ⟨h1, h2, h⟩ | ⟨h1, h2, h3, h⟩ | ⟨h1, h2, h3, h⟩
  · rw [h] at hE; cases hE
  · rw [h] at hE; cases hE
  · rw [h] at hE; cases hE
  · simp only [h1] at hr
    have h2' : (n == 0) = false := by simpa using h2
    have h3' : (n == nc) = false := by simpa using h3
    have hlt := H.lt
    clear h hE h1 h2 h3
    go_enter Try.func12, Try.ntmps12
    go_wp2_with (first
      | ((refine wpl_alloc (by rfl) 31 (by rfl) (.agg (zN).toArray) (zN) zeroNtp rfl ?_; intro w1 J1 s1 b1); (have H1 := H.below b1 hlt)) | (go_at_call 25; ((with_reducible refine (hr _).mono ?_); rintro e w1 ⟨rfl, rfl⟩)) | (refine wpl_loadf (by rfl) 28 _ (by rfl) g 2 (by rfl) _ _ H1 _ rfl _ Try.underlying28 rfl ?_)
      | ((refine wpl_storem (by rfl) 54 _ _ (by rfl) g 1 (by rfl) _ (by rfl) _ rfl _ _ (asL ver now n pd lx c0 c1 c2 c3 c4 c5 c6 c7) H1 _ sizeReq (by rfl) (by simp) (by rfl) (by simp [Value.oneCell']) ?_; intro w2 H2 s2 g2); (have J2 := J1.but g2 (by omega)))
      | ((refine wpl_storeg (by rfl) 4 _ _ (by rfl) g 3 (by rfl) (.bool true) (by rfl) (by rfl) (by simp [Value.oneCell']) _ _ (asL ver now n true lx c0 c1 c2 c3 c4 c5 c6 c7) H2 (by simp) sizeBool (by rfl) ?_; intro w3 H3 s3 g3); (have J3 := J2.but g3 (by omega)))
      | (refine wpl_loadf (by rfl) 3 _ (by rfl) g 0 (by rfl) _ _ H3 _ rfl _ Try.underlying3 rfl ?_)
      | ((refine wpl_store (by rfl) 31 _ _ (by rfl) w.heap.size (by rfl) _ (by rfl) _ rfl 31 _ J3 (by rfl) _ sizeNtp (by rfl) (by simp [Value.oneCell']) ?_; intro w4 J4 s4 g4); (have H4 := H3.but g4 (by omega))))
    obtain ⟨k0, k1, k2, k3, k4, k5, k6, k7, k8, k9, k10, k11, k12⟩ := cells13 J4
    refine bodyPost_ret (v := .tuple #[ntp 0 ver 3 0 0 0 0 0 0 0 0 0 n, .int .i64 0]) (by simp [results, Try.results12, go_sem, k0, k1, k2, k3, k4, k5, k6, k7, k8, k9, k10, k11, k12]) rfl ?_
    refine ⟨rfl, H4, ?_⟩
    exact (((But.of_below b1 (Nat.le_refl _)).trans g2).trans g3).new g4 (Nat.le_refl _)
abbrev raL (ver : Int) (sn pd : Bool) (t1 nc lx c0 c1 c2 c3 c4 c5 c6 c7 : Int) : List Value := [.int .i64 ver, .bool sn, .bool pd, .int .i64 t1, .int .u64 nc, .int .u64 lx, .int .i64 c0, .int .i64 c1, .int .i64 c2, .int .i64 c3, .int .i64 c4, .int .i64 c5, .int .i64 c6, .int .i64 c7]
def rsendE (now n nc : Int) (sn : Bool) : Int := if rdB now = true then (if n = 0 then 2 else if sn = true ∧ n = nc then 10 else 0) else 3
theorem rsendE_eq {nc : Int} {sn : Bool} (h : sn = !decide (nc = 0)) (now n : Int) : rsendE now n nc sn = sendE now n nc := by
  subst h
  unfold rsendE sendE
  cases rdB now <;> by_cases h : n = 0 <;> by_cases h' : n = nc <;> simp_all
set_option maxRecDepth 100000 in
set_option maxHeartbeats 1000000 in
theorem rsend_err (g : Nat) (ver t1 nc : Int) (sn pd : Bool) (lx c0 c1 c2 c3 c4 c5 c6 c7 now n : Int) (w : World) (H : Blk w g 59 (raL ver sn pd t1 nc lx c0 c1 c2 c3 c4 c5 c6 c7)) (hsn : sn = !decide (nc = 0)) (hE : sendE now n nc ≠ 0) :
    Calls Try.prog 13 #[.pointer (some ⟨g, 0, none⟩), .int .i64 now, .int .u64 n] w fun e w' => e = .returned (.tuple #[ntp0, .int .i64 (sendE now n nc)]) ∧ Below w.heap.size w w' := by
  have hr := fun W => rin_any now W
  rcases sendE_cases now n nc with ⟨h1, h⟩ | ⟨h1, h2, h⟩ | ⟨h1, h2, h3, h⟩ | ⟨h1, h2, h3, h⟩
  · simp only [h1] at hr
    rw [h]
    clear h hE h1 hsn
    go_enter Try.func13, Try.ntmps13
    go_wp2_with (first | (refine wpl_alloc (by rfl) 31 (by rfl) (.agg (zN).toArray) (zN) zeroNtp rfl ?_; intro w1 J1 s1 b1) | (refine wpl_store (by rfl) 31 _ _ (by rfl) w.heap.size (by rfl) _ (by rfl) _ rfl 31 _ J1 (by rfl) _ sizeNtp (by rfl) (by simp [Value.oneCell']) ?_; intro w2 J2 s2 g2) | (go_at_call 26; ((with_reducible refine (hr _).mono ?_); rintro e w1 ⟨rfl, rfl⟩)))
    obtain ⟨k0, k1, k2, k3, k4, k5, k6, k7, k8, k9, k10, k11, k12⟩ := cells13 J2
    refine bodyPost_ret (v := .tuple #[ntp0, .int .i64 3]) (by simp [results, Try.results13, go_sem, k0, k1, k2, k3, k4, k5, k6, k7, k8, k9, k10, k11, k12]) rfl ?_
    exact ⟨rfl, b1.trans (g2.below (by omega) (Nat.le_refl _))⟩
  · subst h2
    simp only [h1] at hr
    rw [h]
    clear h hE h1 hsn
    go_enter Try.func13, Try.ntmps13
    go_wp2_with (first | (refine wpl_alloc (by rfl) 31 (by rfl) (.agg (zN).toArray) (zN) zeroNtp rfl ?_; intro w1 J1 s1 b1) | (refine wpl_store (by rfl) 31 _ _ (by rfl) w.heap.size (by rfl) _ (by rfl) _ rfl 31 _ J1 (by rfl) _ sizeNtp (by rfl) (by simp [Value.oneCell']) ?_; intro w2 J2 s2 g2) | (go_at_call 26; ((with_reducible refine (hr _).mono ?_); rintro e w1 ⟨rfl, rfl⟩)))
    obtain ⟨k0, k1, k2, k3, k4, k5, k6, k7, k8, k9, k10, k11, k12⟩ := cells13 J2
    refine bodyPost_ret (v := .tuple #[ntp0, .int .i64 2]) (by simp [results, Try.results13, go_sem, k0, k1, k2, k3, k4, k5, k6, k7, k8, k9, k10, k11, k12]) rfl ?_
    exact ⟨rfl, b1.trans (g2.below (by omega) (Nat.le_refl _))⟩
  · subst h3
    have h2' : (n == 0) = false := by simpa using h2
    obtain rfl : sn = true := by rw [hsn]; simpa using h2
    simp only [h1] at hr
    rw [h]
    have hlt := H.lt
    clear h hE h1 h2 hsn
    go_enter Try.func13, Try.ntmps13
    go_wp2_with (first | ((refine wpl_alloc (by rfl) 31 (by rfl) (.agg (zN).toArray) (zN) zeroNtp rfl ?_; intro w1 J1 s1 b1); (have H1 := H.below b1 hlt)) | (refine wpl_store (by rfl) 31 _ _ (by rfl) w.heap.size (by rfl) _ (by rfl) _ rfl 31 _ J1 (by rfl) _ sizeNtp (by rfl) (by simp [Value.oneCell']) ?_; intro w2 J2 s2 g2) | (go_at_call 26; ((with_reducible refine (hr _).mono ?_); rintro e w1 ⟨rfl, rfl⟩)) | (refine wpl_loadf (by rfl) 28 _ (by rfl) g 4 (by rfl) _ _ H1 _ rfl _ Try.underlying28 rfl ?_) | (refine wpl_loadf (by rfl) 4 _ (by rfl) g 1 (by rfl) _ _ H1 _ rfl _ Try.underlying4 rfl ?_))
    obtain ⟨k0, k1, k2, k3, k4, k5, k6, k7, k8, k9, k10, k11, k12⟩ := cells13 J2
    refine bodyPost_ret (v := .tuple #[ntp0, .int .i64 10]) (by simp [results, Try.results13, go_sem, k0, k1, k2, k3, k4, k5, k6, k7, k8, k9, k10, k11, k12]) rfl ?_
    exact ⟨rfl, b1.trans (g2.below (by omega) (Nat.le_refl _))⟩
  · exact absurd h hE
set_option maxRecDepth 100000 in
set_option maxHeartbeats 1000000 in
theorem rsend_ok (g : Nat) (ver t1 nc : Int) (sn pd : Bool) (lx c0 c1 c2 c3 c4 c5 c6 c7 now n : Int) (w : World) (H : Blk w g 59 (raL ver sn pd t1 nc lx c0 c1 c2 c3 c4 c5 c6 c7)) (hE : sendE now n nc = 0) :
    Calls Try.prog 13 #[.pointer (some ⟨g, 0, none⟩), .int .i64 now, .int .u64 n] w fun e w' => e = .returned (.tuple #[ntp 0 ver 3 0 0 0 0 0 0 0 0 0 n, .int .i64 0]) ∧ Blk w' g 59 (raL ver true true now n lx c0 c1 c2 c3 c4 c5 c6 c7) ∧ But g w w' := by
  have hr := fun W => rin_any now W
  rcases sendE_cases now n nc with ⟨h1, h⟩ | ⟨h1, h2, h⟩ | ⟨h1, h2, h3, h⟩ | ⟨h1, h2, h3, h⟩
  · rw [h] at hE; cases hE
  · rw [h] at hE; cases hE
  · rw [h] at hE; cases hE
  · simp only [h1] at hr
    have h2' : (n == 0) = false := by simpa using h2
    have h3' : (n == nc) = false := by simpa using h3
    have hlt := H.lt
    clear h hE h1 h2 h3
    cases sn
    · skip
      go_enter Try.func13, Try.ntmps13
      go_wp2_with (first
        | ((refine wpl_alloc (by rfl) 31 (by rfl) (.agg (zN).toArray) (zN) zeroNtp rfl ?_; intro w1 J1 s1 b1); (have H1 := H.below b1 hlt)) | (go_at_call 26; ((with_reducible refine (hr _).mono ?_); rintro e w1 ⟨rfl, rfl⟩)) | (refine wpl_loadf (by rfl) 28 _ (by rfl) g 4 (by rfl) _ _ H1 _ rfl _ Try.underlying28 rfl ?_) | (refine wpl_loadf (by rfl) 4 _ (by rfl) g 1 (by rfl) _ _ H1 _ rfl _ Try.underlying4 rfl ?_)
        | ((refine wpl_storeg (by rfl) 4 _ _ (by rfl) g 1 (by rfl) (.bool true) (by rfl) (by rfl) (by simp [Value.oneCell']) _ _ (raL ver true pd t1 nc lx c0 c1 c2 c3 c4 c5 c6 c7) H1 (by simp) sizeBool (by rfl) ?_; intro w2 H2 s2 g2); (have J2 := J1.but g2 (by omega)))
        | ((refine wpl_storeg (by rfl) 4 _ _ (by rfl) g 2 (by rfl) (.bool true) (by rfl) (by rfl) (by simp [Value.oneCell']) _ _ (raL ver true true t1 nc lx c0 c1 c2 c3 c4 c5 c6 c7) H2 (by simp) sizeBool (by rfl) ?_; intro w3 H3 s3 g3); (have J3 := J2.but g3 (by omega)))
        | ((refine wpl_storeg (by rfl) 3 _ _ (by rfl) g 3 (by rfl) (.int .i64 now) (by rfl) (by rfl) (by simp [Value.oneCell']) _ _ (raL ver true true now nc lx c0 c1 c2 c3 c4 c5 c6 c7) H3 (by simp) sizeI64 (by rfl) ?_; intro w4 H4 s4 g4); (have J4 := J3.but g4 (by omega)))
        | ((refine wpl_storeg (by rfl) 28 _ _ (by rfl) g 4 (by rfl) (.int .u64 n) (by rfl) (by rfl) (by simp [Value.oneCell']) _ _ (raL ver true true now n lx c0 c1 c2 c3 c4 c5 c6 c7) H4 (by simp) sizeU64 (by rfl) ?_; intro w5 H5 s5 g5); (have J5 := J4.but g5 (by omega)))
        | (refine wpl_loadf (by rfl) 3 _ (by rfl) g 0 (by rfl) _ _ H5 _ rfl _ Try.underlying3 rfl ?_)
        | ((refine wpl_store (by rfl) 31 _ _ (by rfl) w.heap.size (by rfl) _ (by rfl) _ rfl 31 _ J5 (by rfl) _ sizeNtp (by rfl) (by simp [Value.oneCell']) ?_; intro w6 J6 s6 g6); (have H6 := H5.but g6 (by omega))))
      obtain ⟨k0, k1, k2, k3, k4, k5, k6, k7, k8, k9, k10, k11, k12⟩ := cells13 J6
      refine bodyPost_ret (v := .tuple #[ntp 0 ver 3 0 0 0 0 0 0 0 0 0 n, .int .i64 0]) (by simp [results, Try.results13, go_sem, k0, k1, k2, k3, k4, k5, k6, k7, k8, k9, k10, k11, k12]) rfl ?_
      refine ⟨rfl, H6, ?_⟩
      exact (((((But.of_below b1 (Nat.le_refl _)).trans g2).trans g3).trans g4).trans g5).new g6 (Nat.le_refl _)
    · skip
      go_enter Try.func13, Try.ntmps13
      go_wp2_with (first
        | ((refine wpl_alloc (by rfl) 31 (by rfl) (.agg (zN).toArray) (zN) zeroNtp rfl ?_; intro w1 J1 s1 b1); (have H1 := H.below b1 hlt)) | (go_at_call 26; ((with_reducible refine (hr _).mono ?_); rintro e w1 ⟨rfl, rfl⟩)) | (refine wpl_loadf (by rfl) 28 _ (by rfl) g 4 (by rfl) _ _ H1 _ rfl _ Try.underlying28 rfl ?_) | (refine wpl_loadf (by rfl) 4 _ (by rfl) g 1 (by rfl) _ _ H1 _ rfl _ Try.underlying4 rfl ?_)
        | ((refine wpl_storeg (by rfl) 4 _ _ (by rfl) g 1 (by rfl) (.bool true) (by rfl) (by rfl) (by simp [Value.oneCell']) _ _ (raL ver true pd t1 nc lx c0 c1 c2 c3 c4 c5 c6 c7) H1 (by simp) sizeBool (by rfl) ?_; intro w2 H2 s2 g2); (have J2 := J1.but g2 (by omega)))
        | ((refine wpl_storeg (by rfl) 4 _ _ (by rfl) g 2 (by rfl) (.bool true) (by rfl) (by rfl) (by simp [Value.oneCell']) _ _ (raL ver true true t1 nc lx c0 c1 c2 c3 c4 c5 c6 c7) H2 (by simp) sizeBool (by rfl) ?_; intro w3 H3 s3 g3); (have J3 := J2.but g3 (by omega)))
        | ((refine wpl_storeg (by rfl) 3 _ _ (by rfl) g 3 (by rfl) (.int .i64 now) (by rfl) (by rfl) (by simp [Value.oneCell']) _ _ (raL ver true true now nc lx c0 c1 c2 c3 c4 c5 c6 c7) H3 (by simp) sizeI64 (by rfl) ?_; intro w4 H4 s4 g4); (have J4 := J3.but g4 (by omega)))
        | ((refine wpl_storeg (by rfl) 28 _ _ (by rfl) g 4 (by rfl) (.int .u64 n) (by rfl) (by rfl) (by simp [Value.oneCell']) _ _ (raL ver true true now n lx c0 c1 c2 c3 c4 c5 c6 c7) H4 (by simp) sizeU64 (by rfl) ?_; intro w5 H5 s5 g5); (have J5 := J4.but g5 (by omega)))
        | (refine wpl_loadf (by rfl) 3 _ (by rfl) g 0 (by rfl) _ _ H5 _ rfl _ Try.underlying3 rfl ?_)
        | ((refine wpl_store (by rfl) 31 _ _ (by rfl) w.heap.size (by rfl) _ (by rfl) _ rfl 31 _ J5 (by rfl) _ sizeNtp (by rfl) (by simp [Value.oneCell']) ?_; intro w6 J6 s6 g6); (have H6 := H5.but g6 (by omega))))
      obtain ⟨k0, k1, k2, k3, k4, k5, k6, k7, k8, k9, k10, k11, k12⟩ := cells13 J6
      refine bodyPost_ret (v := .tuple #[ntp 0 ver 3 0 0 0 0 0 0 0 0 0 n, .int .i64 0]) (by simp [results, Try.results13, go_sem, k0, k1, k2, k3, k4, k5, k6, k7, k8, k9, k10, k11, k12]) rfl ?_
      refine ⟨rfl, H6, ?_⟩
      exact (((((But.of_below b1 (Nat.le_refl _)).trans g2).trans g3).trans g4).trans g5).new g6 (Nat.le_refl _)
/-- a new association -/
theorem new_no (v : Int) (w : World) (h : ¬(1 ≤ v ∧ v ≤ 4)) : Calls Try.prog 9 #[.int .i64 v] w fun e w' => e = .returned (.pointer none) ∧ w = w' := by
  by_cases h1 : v < 1
  · go_enter Try.func9, Try.ntmps9
    go_wp2
    go_ret
    exact ⟨rfl, rfl⟩
  · have h2 : 4 < v := by omega
    have h3 : 1 ≤ v := by omega
    clear h h1
    go_enter Try.func9, Try.ntmps9
    go_wp2
    go_ret
    exact ⟨rfl, rfl⟩
theorem new_ok (v : Int) (w : World) (h1 : 1 ≤ v) (h2 : v ≤ 4) : Calls Try.prog 9 #[.int .i64 v] w fun e w' => e = .returned (.pointer (some ⟨w.heap.size, 0, none⟩)) ∧ Blk w' w.heap.size 57 (asL v 0 0 false 0 0 0 0 0 0 0 0 0) ∧ Below w.heap.size w w' := by
  go_enter Try.func9, Try.ntmps9
  go_wp2_with (first | (refine wpl_box (by rfl) 57 _ (by rfl) _ (asL v 0 0 false 0 0 0 0 0 0 0 0 0) (by rfl) rfl ?_; intro w1 H1 s1 b1))
  go_ret
  exact ⟨rfl, H1, b1⟩
theorem rnew_no (v : Int) (w : World) (h : ¬(1 ≤ v ∧ v ≤ 4)) : Calls Try.prog 10 #[.int .i64 v] w fun e w' => e = .returned (.pointer none) ∧ w = w' := by
  by_cases h1 : v < 1
  · go_enter Try.func10, Try.ntmps10
    go_wp2
    go_ret
    exact ⟨rfl, rfl⟩
  · have h2 : 4 < v := by omega
    have h3 : 1 ≤ v := by omega
    clear h h1
    go_enter Try.func10, Try.ntmps10
    go_wp2
    go_ret
    exact ⟨rfl, rfl⟩
theorem rnew_ok (v : Int) (w : World) (h1 : 1 ≤ v) (h2 : v ≤ 4) : Calls Try.prog 10 #[.int .i64 v] w fun e w' => e = .returned (.pointer (some ⟨w.heap.size, 0, none⟩)) ∧ Blk w' w.heap.size 59 (raL v false false 0 0 0 0 0 0 0 0 0 0 0) ∧ Below w.heap.size w w' := by
  go_enter Try.func10, Try.ntmps10
  go_wp2_with (first | (refine wpl_box (by rfl) 59 _ (by rfl) _ (raL v false false 0 0 0 0 0 0 0 0 0 0 0) (by rfl) rfl ?_; intro w1 H1 s1 b1))
  go_ret
  exact ⟨rfl, H1, b1⟩
theorem pending_any (g : Nat) (ver t1 nc : Int) (pd : Bool) (lx c0 c1 c2 c3 c4 c5 c6 c7 : Int) (w : World) (H : Blk w g 57 (asL ver t1 nc pd lx c0 c1 c2 c3 c4 c5 c6 c7)) :
    Calls Try.prog 18 #[.pointer (some ⟨g, 0, none⟩)] w fun e w' => e = .returned (.bool pd) ∧ w = w' := by
  go_enter Try.func18, Try.ntmps18
  go_wp2_with (first | (refine wpl_loadf (by rfl) 4 _ (by rfl) g 3 (by rfl) _ _ H _ rfl _ Try.underlying4 rfl ?_))
  go_ret
  exact ⟨rfl, rfl⟩
theorem rpending_any (g : Nat) (ver : Int) (sn pd : Bool) (t1 nc lx c0 c1 c2 c3 c4 c5 c6 c7 : Int) (w : World) (H : Blk w g 59 (raL ver sn pd t1 nc lx c0 c1 c2 c3 c4 c5 c6 c7)) :
    Calls Try.prog 19 #[.pointer (some ⟨g, 0, none⟩)] w fun e w' => e = .returned (.bool pd) ∧ w = w' := by
  go_enter Try.func19, Try.ntmps19
  go_wp2_with (first | (refine wpl_loadf (by rfl) 4 _ (by rfl) g 2 (by rfl) _ _ H _ rfl _ Try.underlying4 rfl ?_))
  go_ret
  exact ⟨rfl, rfl⟩
end Go.Proofs.Ytickoncgnjgciaa
