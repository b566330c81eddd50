/- The fields (number, size) of the law on wire's round trip: a slice of them that came in, its clone, its cells turned; the plain law. -/
import Derived.Test.YtkacncacfnhdjaaReader
import Derived.Test.YtkacncacfnhdjaaOwn
import Derived.Test.YtkacncacfnhdjaaRow
import Derived.SizedLaws
import Derived.OpenShut
import Derived.Deep.SlicePairs
namespace Go.Proofs.Ytkacncacfnhdjaa
open Go.ChangeShapes Go.WideShapes Go.ChangeAt Go.RowKit Go.Joins
set_option linter.unusedSimpArgs false
set_option linter.unusedVariables false
set_option maxRecDepth 100000
def I64q (x : Int) : Prop := -9223372036854775808 ≤ x ∧ x ≤ 9223372036854775807
def U64q (x : Int) : Prop := 0 ≤ x ∧ x < 18446744073709551616
/-- the cells of n fields -/
def Pc (w : World) (b o n : Nat) (X Y : Nat → Int) : Prop :=
  ∀ k, k < n → w.cell? ⟨b, o + k * 2, none⟩ = some (.int .u64 (X k)) ∧ w.cell? ⟨b, o + k * 2 + 1, none⟩ = some (.int .i64 (Y k))
/-- a slice address of n fields, in a block below hi -/
def Pq (w : World) (hi : Nat) (A : Option Addr) (n : Nat) (X Y : Nat → Int) : Prop :=
  0 < n → ∃ b o, A = some ⟨b, o, none⟩ ∧ b < hi ∧ Pc w b o n X Y
theorem Pc.below {w w' : World} {b o n B : Nat} {X Y : Nat → Int} (h : Pc w b o n X Y) (hb : Below B w w') (h1 : b < B) : Pc w' b o n X Y := fun k hk =>
  ⟨(hb.cell (p := ⟨b, o + k * 2, none⟩) h1).trans (h k hk).1, (hb.cell (p := ⟨b, o + k * 2 + 1, none⟩) h1).trans (h k hk).2⟩
theorem Pq.below {w w' : World} {hi n B : Nat} {A : Option Addr} {X Y : Nat → Int} (h : Pq w hi A n X Y) (hb : Below B w w') (h1 : hi ≤ B) : Pq w' hi A n X Y := fun hn => by
  obtain ⟨b, o, e, h2, hc⟩ := h hn
  exact ⟨b, o, e, h2, hc.below hb (by omega)⟩
theorem Pq.less {w : World} {hi n m : Nat} {A : Option Addr} {X Y : Nat → Int} (h : Pq w hi A n X Y) (hm : m ≤ n) : Pq w hi A m X Y := fun hn => by
  obtain ⟨b, o, e, h2, hc⟩ := h (by omega)
  exact ⟨b, o, e, h2, fun k hk => hc k (by omega)⟩
/-- F with x at i -/
def upd (F : Nat → Int) (i : Nat) (x : Int) : Nat → Int := fun k => if k = i then x else F k
theorem upd_same (F : Nat → Int) (i : Nat) (x : Int) : upd F i x i = x := by simp [upd]
theorem upd_other (F : Nat → Int) (i : Nat) (x : Int) {k : Nat} (h : k ≠ i) : upd F i x k = F k := by simp [upd, h]
/-- the fields lie in a block of their own, from its beginning on -/
def Pw (w : World) (lo : Nat) (A : Option Addr) (n : Nat) (X Y : Nat → Int) : Prop :=
  0 < n → ∃ g, A = some ⟨g, 0, none⟩ ∧ lo ≤ g ∧ g < w.heap.size ∧ (∀ k, w.frozen? ⟨g, k, none⟩ = false) ∧ Pc w g 0 n X Y
def flatq (n : Nat) (X Y : Nat → Int) : List Value := (List.range (n * 2)).map fun j => if j % 2 = 0 then .int .u64 (X (j / 2)) else .int .i64 (Y (j / 2))
theorem flatq_len (n : Nat) (X Y : Nat → Int) : (flatq n X Y).length = n * 2 := by simp [flatq]
theorem flatq_get (n : Nat) (X Y : Nat → Int) {j : Nat} (hj : j < n * 2) : (flatq n X Y)[j]? = some (if j % 2 = 0 then .int .u64 (X (j / 2)) else .int .i64 (Y (j / 2))) := by
  simp [flatq, List.getElem?_map, List.getElem?_range hj]
theorem flatq_one (n : Nat) (X Y : Nat → Int) : ∀ u ∈ flatq n X Y, u.oneCell' = true := by
  intro u hu
  simp only [flatq, List.mem_map] at hu
  obtain ⟨j, _, rfl⟩ := hu
  split <;> rfl
theorem flatq_cells {w : World} {b o n : Nat} {X Y : Nat → Int} (h : Pc w b o n X Y) : ∀ j u, (flatq n X Y)[j]? = some u → w.cell? ((⟨b, o, none⟩ : Addr).add j) = some u := fun j u hu => by
  have hj : j < n * 2 := by rw [← flatq_len n X Y]; exact (List.getElem?_eq_some_iff.1 hu).1
  rw [flatq_get n X Y hj] at hu
  injection hu with hu
  subst hu
  rw [ofAdd]
  obtain ⟨h0, h1⟩ := h (j / 2) (by omega)
  by_cases hp : j % 2 = 0
  · rw [if_pos hp, ← h0]; congr 2; omega
  · rw [if_neg hp, ← h1]; congr 2; omega
theorem pw_of_own {w : World} {lo n : Nat} {E : TypeId} {v : Value} {X Y : Nat → Int} (h : w.ownsRow lo E 2 v n (flatq n X Y)) : ∃ A c, v = .slice A n c ∧ Pw w lo A n X Y := by
  by_cases hn : 0 < n
  · obtain ⟨g, c, rfl, h1, h2, h3, h4, h5⟩ := own_form h hn
    refine ⟨_, c, rfl, fun _ => ⟨g, rfl, h1, h2, fun k => h.frozenAt k, fun k hk => ?_⟩⟩
    have e0 := h5 (k * 2) (by omega)
    have e1 := h5 (k * 2 + 1) (by omega)
    rw [flatq_get n X Y (by omega)] at e0 e1
    rw [if_pos (by omega)] at e0
    rw [if_neg (by omega)] at e1
    have q0 : k * 2 / 2 = k := by omega
    have q1 : (k * 2 + 1) / 2 = k := by omega
    rw [q0] at e0; rw [q1] at e1
    simp only [Nat.zero_add]
    exact ⟨e0, e1⟩
  · obtain rfl : n = 0 := by omega
    rcases h.2 with ⟨rfl, _⟩ | ⟨g, cap, cur, rfl, _⟩
    · exact ⟨none, 0, rfl, fun h => absurd h (by omega)⟩
    · exact ⟨_, cap, rfl, fun h => absurd h (by omega)⟩
theorem infoField : (Try.prog.info? 26).map (fun i => (i.zero, i.size, i.bytes)) = some (some (.agg #[.int .u64 0, .int .i64 0]), 2, 16) := by kernel_rfl
theorem cellsField : Try.prog.cellsOf 26 = 2 := by kernel_rfl
theorem cellsInt' : Try.prog.cellsOf 3 = 1 := by kernel_rfl
theorem cellsU64 : Try.prog.cellsOf 24 = 1 := by kernel_rfl
section
variable {H : Type} {enc : TypeId × Value → H}
theorem open_fieldsq {W : World} {base : Nat} {v : Value} {d : DataW H} {ps : List MemPlace} (hval : Value.okWide Try.prog W .any base 22 v) (h1 : DataW.Trod enc Try.prog W 0 (fun _ => true) true 22 v d ps) :
    ∃ (A : Option Addr) (n c : Nat) (X Y : Nat → Int), v = .slice A n c ∧ Pq W W.heap.size A n X Y ∧ (∀ k, k < n → U64q (X k) ∧ I64q (Y k)) ∧ n ≤ c ∧ c ≤ 9223372036854775807 ∧ (A = none → n = 0 ∧ c = 0) := by
  obtain ⟨a1, len, cap, rfl⟩ := okWide_slice Try.underlying22 hval
  obtain ⟨fuel, hf⟩ := h1
  rcases Go.Deep.open_slice_pairs Try.underlying22 Try.underlying26 cellsField rfl rfl cellsU64 cellsInt' hf with ⟨hcs, hx⟩ | ⟨a, len', cap', m, n, V0, V1, D0, D1, P0, P1, hcs, _, hl, hm, hmm, hx, hcell⟩
  · simp [Value.cells] at hcs
    obtain ⟨rfl, rfl, rfl⟩ := hcs
    exact ⟨none, 0, 0, fun _ => 0, fun _ => 0, rfl, fun h => absurd h (by omega), fun k hk => by omega, Nat.le_refl _, by omega, fun _ => ⟨rfl, rfl⟩⟩
  · simp [Value.cells] at hcs
    obtain ⟨rfl, rfl, rfl⟩ := hcs
    simp only [if_true] at hmm
    subst hmm
    have key : ∀ k, k < len → W.cell? (a.add (k * 2)) = some (.int .u64 (intOf (V0 k))) ∧ W.cell? (a.add (k * 2 + 1)) = some (.int .i64 (intOf (V1 k))) ∧ U64q (intOf (V0 k)) ∧ I64q (intOf (V1 k)) := fun k hk => by
      obtain ⟨hc0, hc1, ht0, ht1⟩ := hcell k (by omega)
      obtain ⟨x, e0, _, w0⟩ := DataW.trod_int Try.underlying24 ht0
      obtain ⟨y, e1, _, w1⟩ := DataW.trod_int Try.underlying3 ht1
      simp only [List.cons.injEq, and_true] at e0 e1
      rw [hc0, hc1]
      simp only [e0, e1, intOf]
      have := bounds_u64 w0
      exact ⟨trivial, trivial, ⟨this.1, by omega⟩, bounds_i64 w1⟩
    refine ⟨some a, len, m, fun k => intOf (V0 k), fun k => intOf (V1 k), rfl, fun hp => ?_, fun k hk => (key k hk).2.2, hl, by unfold maxLen at hm; omega, fun h => by cases h⟩
    obtain ⟨ab, ao, spot⟩ := a
    have h0 := (key 0 hp).1
    have hspot : spot = none := by simpa [Addr.add] using World.cell?_spot h0
    subst hspot
    refine ⟨ab, ao, rfl, ?_, fun k hk => ?_⟩
    · have := World.block_lt_of_cell? W _ h0
      simpa [ofAdd] using this
    · have hs := key k hk
      rw [ofAdd, ofAdd, ← Nat.add_assoc] at hs
      exact ⟨hs.1, hs.2.1⟩
end
set_option maxHeartbeats 2000000 in
theorem fclone_any (A : Option Addr) (n c hi : Nat) (X Y : Nat → Int) (w : World) (h : Pq w hi A n X Y) (hh : hi ≤ w.heap.size) (hm : n ≤ 200) (hA : A = none → n = 0 ∧ c = 0) :
    Calls Try.prog 4 #[.slice A n c] w fun e w' => ∃ A' c', e = .returned (.slice A' n c') ∧ Pw w' w.heap.size A' n X Y ∧ Below w.heap.size w w' := by
  rcases A with _ | a
  · obtain ⟨rfl, rfl⟩ := hA rfl
    have hnil := fun (W : World) => Go.Lib.run_eql_slice_nil (P := Try.prog) W 22 26 none 0 0 0 0 Try.underlying22
    go_enter Try.func4, Try.ntmps4
    go_wp2
    go_ret
    exact ⟨none, ⟨0, rfl⟩, fun h => absurd h (by omega), Below.refl _ _⟩
  · have hown : (w.alloc (.cells #[] 26)).ownsRow w.heap.size 26 2 (.slice (some ⟨w.heap.size, 0, none⟩) 0 0) 0 [] := World.ownsRow_made w #[] 0 (Nat.le_refl _) (by unfold maxLen; omega) (by simp)
    have hB0 : Below w.heap.size w (w.alloc (.cells #[] 26)) := (Below.refl _ w).alloc (Nat.le_refl _) _
    have hcl : ∀ j u, (flatq n X Y)[j]? = some u → (w.alloc (.cells #[] 26)).cell? (a.add j) = some u := by
      by_cases hn : 0 < n
      · obtain ⟨b, o, e, h2, hc⟩ := h hn
        injection e with e
        subst e
        exact flatq_cells (hc.below hB0 (by omega))
      · obtain rfl : n = 0 := by omega
        intro j u hu
        simp [flatq] at hu
    have hnil := fun (W : World) => Go.Lib.run_eql_slice_nil (P := Try.prog) W 22 26 (some a) n c 0 0 Try.underlying22
    go_enter Try.func4, Try.ntmps4
    go_wp2_with (at_builtin; refine wpl_append (by rfl) _ _ 22 (by rfl) 26 (.agg #[.int .u64 0, .int .i64 0]) 2 16 Try.underlying22 infoField rfl (by omega) (.slice (some ⟨w.heap.size, 0, none⟩) 0 0) 0 [] w.heap.size (by rfl) hown a n c (by rfl) (flatq n X Y) (flatq_len n X Y) hcl (flatq_one n X Y) (by omega) (by omega) (by simp) ?_; intro v' w1 ho b1 _)
    have hb2 : Below w.heap.size w w1 := hB0.trans b1
    simp only [Nat.zero_add, List.nil_append] at ho
    obtain ⟨A1, c1, rfl, hw⟩ := pw_of_own ho
    go_ret
    exact ⟨A1, c1, rfl, hw, hb2⟩
end Go.Proofs.Ytkacncacfnhdjaa
