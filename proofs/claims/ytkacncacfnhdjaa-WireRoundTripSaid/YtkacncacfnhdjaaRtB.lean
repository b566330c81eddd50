/- The plain law of wire's round trip, and its loops' conditions. -/
import Derived.Test.YtkacncacfnhdjaaRtA
import Derived.Test.YtkacncacfnhdjaaWireAwake
namespace Go.Proofs.Ytkacncacfnhdjaa
open Go.RowKit
set_option linter.unusedSimpArgs false
set_option linter.unusedVariables false
set_option maxRecDepth 100000
/-- the size that the law gives a field, and its number cut to it -/
def sq (y : Int) : Nat := (y % 8).toNat + 1
def nq (x y : Int) : Int := x / 2 ^ (64 - 8 * sq y)
theorem sq_rng (y : Int) : 1 ≤ sq y ∧ sq y ≤ 8 := by unfold sq; omega
theorem sq_eq (y : Int) : wrap64 ((IntKind.u64.wrap y).tmod 8) = (sq y : Int) - 1 := by
  rw [IntKind.wrap_u64, Int.tmod_eq_emod_of_nonneg (by omega)]; unfold wrap64 sq; omega
theorem nq_rng {x : Int} (y : Int) (hx : U64q x) : 0 ≤ nq x y ∧ nq x y < 256 ^ sq y ∧ nq x y < 18446744073709551616 := by
  obtain ⟨h0, h1⟩ := hx
  obtain ⟨s1, s8⟩ := sq_rng y
  unfold nq
  generalize sq y = s at *
  have : s = 1 ∨ s = 2 ∨ s = 3 ∨ s = 4 ∨ s = 5 ∨ s = 6 ∨ s = 7 ∨ s = 8 := by omega
  rcases this with rfl | rfl | rfl | rfl | rfl | rfl | rfl | rfl <;> simp only [Nat.reduceMul, Nat.reduceSub, Int.reducePow] <;> omega
theorem numB_bytesB' (k : Nat) : ∀ n : Int, 0 ≤ n → n < 256 ^ k → n < 18446744073709551616 → numB (bytesB k n) = n := by
  induction k with
  | zero => intro n h0 h1 _; simp at h1; simp [bytesB, numB]; omega
  | succ k ih =>
    intro n h0 h1 h2
    rw [Int.pow_succ] at h1
    rw [bytesB, numB_app, ih (n / 256) (by omega) (by omega) (by omega)]
    unfold stepB; omega
/-- the bytes of the first k fields -/
def bq (X Y : Nat → Int) : Nat → List Int
  | 0 => []
  | k + 1 => bq X Y k ++ bytesB (sq (Y k)) (nq (X k) (Y k))
def lq (Y : Nat → Int) : Nat → Nat
  | 0 => 0
  | k + 1 => lq Y k + sq (Y k)
theorem bq_len (X Y : Nat → Int) : ∀ k, (bq X Y k).length = lq Y k
  | 0 => rfl
  | k + 1 => by rw [bq, lq, List.length_append, bytesB_length, bq_len X Y k]
theorem lq_le (Y : Nat → Int) : ∀ k, lq Y k ≤ 8 * k
  | 0 => by simp [lq]
  | k + 1 => by have := lq_le Y k; have := (sq_rng (Y k)).2; rw [lq]; omega
theorem lq_mono (Y : Nat → Int) {k : Nat} : ∀ {n : Nat}, k ≤ n → lq Y k ≤ lq Y n := by
  intro n
  induction n with
  | zero => intro h; obtain rfl : k = 0 := (by omega); exact Nat.le_refl _
  | succ n ih =>
    intro h
    by_cases he : k = n + 1
    · rw [he]; exact Nat.le_refl _
    · have := ih (by omega); rw [lq]; omega
theorem bq_app (X Y : Nat → Int) {k : Nat} : ∀ {n : Nat}, k ≤ n → ∃ r, bq X Y n = bq X Y k ++ r := by
  intro n
  induction n with
  | zero => intro h; obtain rfl : k = 0 := (by omega); exact ⟨[], by simp⟩
  | succ n ih =>
    intro h
    by_cases he : k = n + 1
    · exact ⟨[], by rw [he]; simp⟩
    · obtain ⟨r, hr⟩ := ih (by omega); exact ⟨r ++ bytesB (sq (Y n)) (nq (X n) (Y n)), by rw [bq, hr, List.append_assoc]⟩
/-- field k stands at its place -/
theorem bq_cut (X Y : Nat → Int) {k n : Nat} (h : k < n) : ∃ r, (bq X Y n).drop (lq Y k) = bytesB (sq (Y k)) (nq (X k) (Y k)) ++ r ∧ (bq X Y n).drop (lq Y (k + 1)) = r := by
  obtain ⟨r, hr⟩ := bq_app X Y (show k + 1 ≤ n from h)
  refine ⟨r, ?_, ?_⟩
  · rw [hr, bq, List.append_assoc, ← bq_len X Y k, List.drop_left]
  · rw [hr, ← bq_len X Y (k + 1), List.drop_left]
theorem bq_byt (X Y : Nat → Int) : ∀ k, Byt (bq X Y k)
  | 0 => Byt.nil
  | k + 1 => (bq_byt X Y k).app (bytesB_byt _ _)
theorem rt_get (X Y : Nat → Int) {k n : Nat} (h : k < n) (hx : U64q (X k)) : getR (bq X Y n) (lq Y k) (sq (Y k)) = .tuple #[.int .u64 (nq (X k) (Y k)), .int .i64 0] := by
  obtain ⟨s1, s8⟩ := sq_rng (Y k)
  obtain ⟨n0, n1, n2⟩ := nq_rng (Y k) hx
  obtain ⟨r, hr, _⟩ := bq_cut X Y h
  have hle := lq_mono Y (show k + 1 ≤ n from h)
  rw [lq] at hle
  have hE : getE (bq X Y n).length (lq Y k) (sq (Y k)) = 0 := getE_0 (by omega) (by rw [bq_len]; omega)
  have hV : getV (bq X Y n) (lq Y k) (sq (Y k)) = nq (X k) (Y k) := by
    unfold getV
    rw [Int.toNat_natCast, Int.toNat_natCast, hr, List.take_left' (bytesB_length _ _)]
    exact numB_bytesB' _ _ n0 n1 n2
  unfold getR
  rw [hE, hV]
  rfl
theorem rt_tk (X Y : Nat → Int) {k n : Nat} (h : k < n) (hx : U64q (X k)) :
    numB (tkL ((bq X Y n).drop (lq Y k)) 0 (sq (Y k)) (szB (sq (Y k)))) = nq (X k) (Y k) ∧ tkR ((bq X Y n).drop (lq Y k)) 0 (sq (Y k)) (szB (sq (Y k))) = (bq X Y n).drop (lq Y (k + 1)) ∧ tkE ((bq X Y n).drop (lq Y k)) 0 (sq (Y k)) (szB (sq (Y k))) = 0 := by
  obtain ⟨s1, s8⟩ := sq_rng (Y k)
  obtain ⟨n0, n1, n2⟩ := nq_rng (Y k) hx
  obtain ⟨r, hr, hr'⟩ := bq_cut X Y h
  rw [hr', hr]
  have hl := bytesB_length (sq (Y k)) (nq (X k) (Y k))
  have hz : szB (sq (Y k) : Int) = true := decide_eq_true (by omega)
  have hk : tkOk (bytesB (sq (Y k)) (nq (X k) (Y k)) ++ r) 0 (sq (Y k)) (szB (sq (Y k))) = true := by rw [hz]; simp [tkOk]; omega
  refine ⟨?_, ?_, ?_⟩
  · rw [(tk_yes hk).1, Int.toNat_natCast, List.take_left' hl]; exact numB_bytesB' _ _ n0 n1 n2
  · rw [(tk_yes hk).2, Int.toNat_natCast, List.drop_left' hl]
  · rw [hz]; simp [tkE]; omega
/-- the fields with the first k turned -/
def mX (X Y : Nat → Int) (k : Nat) : Nat → Int := fun j => if j < k then nq (X j) (Y j) else X j
def mY (Y : Nat → Int) (k : Nat) : Nat → Int := fun j => if j < k then (sq (Y j) : Int) else Y j
theorem mX_zero (X Y : Nat → Int) : mX X Y 0 = X := by funext j; simp [mX]
theorem mY_zero (Y : Nat → Int) : mY Y 0 = Y := by funext j; simp [mY]
theorem mX_step (X Y : Nat → Int) (k : Nat) : mX X Y (k + 1) = upd (mX X Y k) k (nq (X k) (Y k)) := by
  funext j
  unfold mX upd
  by_cases h : j = k
  · subst h; simp
  · rw [if_neg h]; show _ = if j < k then _ else _; by_cases h' : j < k
    · rw [if_pos h', if_pos (by omega)]
    · rw [if_neg h', if_neg (by omega)]
theorem mY_step (Y : Nat → Int) (k : Nat) : mY Y (k + 1) = upd (mY Y k) k (sq (Y k)) := by
  funext j
  unfold mY upd
  by_cases h : j = k
  · subst h; simp
  · rw [if_neg h]; show _ = if j < k then _ else _; by_cases h' : j < k
    · rw [if_pos h', if_pos (by omega)]
    · rw [if_neg h', if_neg (by omega)]
theorem Pc.setX {w : World} {b n k : Nat} {X Y : Nat → Int} (h : Pc w b 0 n X Y) (hk : k < n) (x : Int) : Pc (w.setCell ⟨b, k * 2, none⟩ (.int .u64 x)) b 0 n (upd X k x) Y := fun j hj => by
  obtain ⟨h0, h1⟩ := h j hj
  simp only [Nat.zero_add] at h0 h1 ⊢
  refine ⟨?_, ?_⟩
  · by_cases he : j = k
    · subst he; rw [upd_same]; exact World.cell?_setCell_same _ _ _ h0
    · rw [upd_other X k x he, World.cell?_setCell_other _ _ _ _ (by simp <;> omega)]; exact h0
  · rw [World.cell?_setCell_other _ _ _ _ (by simp <;> omega)]; exact h1
theorem Pc.setY {w : World} {b n k : Nat} {X Y : Nat → Int} (h : Pc w b 0 n X Y) (hk : k < n) (y : Int) : Pc (w.setCell ⟨b, k * 2 + 1, none⟩ (.int .i64 y)) b 0 n X (upd Y k y) := fun j hj => by
  obtain ⟨h0, h1⟩ := h j hj
  simp only [Nat.zero_add] at h0 h1 ⊢
  refine ⟨?_, ?_⟩
  · rw [World.cell?_setCell_other _ _ _ _ (by simp <;> omega)]; exact h0
  · by_cases he : j = k
    · subst he; rw [upd_same]; exact World.cell?_setCell_same _ _ _ h1
    · rw [upd_other Y k y he, World.cell?_setCell_other _ _ _ _ (by simp <;> omega)]; exact h1
theorem Pc.drew {w : World} {b o n : Nat} {X Y : Nat → Int} (h : Pc w b o n X Y) : Pc w.drew b o n X Y := h
/-- what holds at the head of the first loop -/
def RtR (wr w : World) (N : Nat) (A : Option Addr) (n : Nat) (X Y : Nat → Int) (k : Nat) (bv : Value) : Prop :=
  ∃ B, bv = .slice B (lq Y k) (lq Y k) ∧ Bs wr N wr.heap.size B (bq X Y k) ∧ Pw wr w.heap.size A n (mX X Y k) (mY Y k) ∧ Below w.heap.size w wr ∧ N ≤ wr.heap.size
end Go.Proofs.Ytkacncacfnhdjaa
