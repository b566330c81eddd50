/- Lists of extension fields in memory; a list that came in, opened. -/
import Derived.Test.YtghcaplhanjgbaaSls
import Derived.Test.YtghcaplhanjgbaaOpen
namespace Go.Proofs.Ytghcaplhanjgbaa
open Go.ChangeShapes Go.WideShapes Go.ChangeAt Go.RowKit Go.Joins
set_option linter.unusedSimpArgs false
set_option linter.unusedVariables false
set_option maxRecDepth 100000
/-- the kind and the bytes of field k -/
def kdL (L : List (Int × List Int)) (k : Nat) : Int := (L.getD k (0, [])).1
def dtL (L : List (Int × List Int)) (k : Nat) : List Int := (L.getD k (0, [])).2
/-- a field's two cells, and its bytes in blocks below hi -/
def Xf (w : World) (hi b o : Nat) (kd : Int) (dt : List Int) : Prop :=
  ∃ A c, w.cell? ⟨b, o, none⟩ = some (.int .i64 kd) ∧ w.cell? ⟨b, o + 1, none⟩ = some (.slice A dt.length c) ∧ Bs w 0 hi A dt ∧ dt.length ≤ c ∧ c ≤ 9223372036854775807 ∧ (A = none → dt.length = 0 ∧ c = 0)
/-- a slice address of the fields L, all in blocks below hi -/
def Xs (w : World) (hi : Nat) (A : Option Addr) (L : List (Int × List Int)) : Prop :=
  0 < L.length → ∃ b o, A = some ⟨b, o, none⟩ ∧ b < hi ∧ ∀ k, k < L.length → Xf w hi b (o + k * 2) (kdL L k) (dtL L k)
section
variable {w w' : World} {hi hi' b o B : Nat} {A : Option Addr} {L : List (Int × List Int)} {kd : Int} {dt : List Int}
theorem Xf.below (h : Xf w hi b o kd dt) (hb : Below B w w') (h1 : hi ≤ B) (h2 : b < B) : Xf w' hi b o kd dt := by
  obtain ⟨A, c, c0, c1, hB, h3, h4, h5⟩ := h
  exact ⟨A, c, kept_cell hb c0 h2, kept_cell hb c1 h2, hB.below hb h1, h3, h4, h5⟩
theorem Xf.wide (h : Xf w hi b o kd dt) (h1 : hi ≤ hi') : Xf w hi' b o kd dt := by
  obtain ⟨A, c, c0, c1, hB, h3, h4, h5⟩ := h
  exact ⟨A, c, c0, c1, hB.wide (Nat.le_refl _) h1, h3, h4, h5⟩
theorem Xs.below (h : Xs w hi A L) (hb : Below B w w') (h1 : hi ≤ B) : Xs w' hi A L := fun hn => by
  obtain ⟨b, o, e, h2, hc⟩ := h hn
  exact ⟨b, o, e, h2, fun k hk => (hc k hk).below hb h1 (by omega)⟩
theorem Xs.wide (h : Xs w hi A L) (h1 : hi ≤ hi') : Xs w hi' A L := fun hn => by
  obtain ⟨b, o, e, h2, hc⟩ := h hn
  exact ⟨b, o, e, by omega, fun k hk => (hc k hk).wide h1⟩
theorem Xs.take (h : Xs w hi A L) (m : Nat) : Xs w hi A (L.take m) := fun hn => by
  rw [List.length_take] at hn
  obtain ⟨b, o, e, h2, hc⟩ := h (by omega)
  refine ⟨b, o, e, h2, fun k hk => ?_⟩
  rw [List.length_take] at hk
  have e1 : (L.take m).getD k (0, []) = L.getD k (0, []) := by
    rw [List.getD_eq_getElem?_getD, List.getD_eq_getElem?_getD, List.getElem?_take, if_pos (by omega)]
  unfold kdL dtL
  rw [e1]
  exact hc k (by omega)
theorem Xs.nil : Xs w hi A [] := fun h => by simp at h
end
theorem weights_elem {H : Type} {P : Program} {t e : TypeId} {d : DataW H} {elems spare : List (DataW H)} (hu : P.underlying t = some (.slice e)) (hd : d ∈ elems) {n : Nat} (hn : n ∈ d.weights P e) : n ∈ (DataW.slice elems spare).weights P t := by
  have all : ∀ l : List (DataW H), d ∈ l → n ∈ DataW.weightsAll P e l := fun l => by
    induction l with
    | nil => intro h; cases h
    | cons x r ih =>
      intro h
      rw [DataW.weightsAll]
      rcases List.mem_cons.1 h with rfl | h
      · exact List.mem_append_left _ hn
      · exact List.mem_append_right _ (ih h)
  rw [DataW.weights, hu]
  simp only [List.mem_cons, List.mem_append]
  exact .inr (.inl (all _ hd))
theorem cellsExt : Try.prog.cellsOf 36 = 2 := by kernel_rfl
theorem cellsI64 : Try.prog.cellsOf 3 = 1 := by kernel_rfl
theorem cellsSl8 : Try.prog.cellsOf 27 = 1 := by kernel_rfl
theorem sizeExt : (Try.prog.info? 36).map (·.size) = some 2 := by kernel_rfl
theorem zeroExt : (Try.prog.info? 36).map (·.zero) = some (some (.agg #[.int .i64 0, .slice none 0 0])) := by kernel_rfl
section
variable {H : Type} {enc : TypeId × Value → H}
/-- a byte slice that is a cell -/
theorem cell_bs {W : World} {base : Nat} {spare : Nat → Bool} {fuel : Nat} {v : Value} {x : DataW H × List MemPlace} (hs : ∀ b, spare b = true) (hf : DataW.trod enc Try.prog W base spare true fuel 27 [v] = some x) :
    ∃ (A : Option Addr) (n c : Nat) (l : List Int), v = .slice A n c ∧ l.length = n ∧ Bs W 0 W.heap.size A l ∧ n ≤ c ∧ c ≤ 9223372036854775807 ∧ (A = none → n = 0 ∧ c = 0) ∧ (0 < c → c ∈ x.1.weights Try.prog 27) := by
  rcases open_ints Try.underlying27 Try.underlying5 cellsU8 hf with ⟨hcs, hx⟩ | ⟨a, len', cap', zs, hcs, _, hl, hm, hz, hx, hcell, hwz⟩
  · simp at hcs
    subst hcs
    exact ⟨none, 0, 0, [], rfl, rfl, Bs.nil, Nat.le_refl _, by omega, fun _ => ⟨rfl, rfl⟩, fun h => absurd h (by omega)⟩
  · simp at hcs
    subst hcs
    rw [hs] at hz
    simp only [if_true] at hz
    refine ⟨some a, len', cap', zs.take len', rfl, by rw [List.length_take]; omega, ?_, hl, by unfold maxLen at hm; exact hm, (fun h => by cases h), fun hc => ?_⟩
    · refine ⟨fun y hy => ?_, fun hp => ?_⟩
      · exact bounds_u8 (hwz y (List.mem_of_mem_take hy))
      · rw [List.length_take] at hp
        obtain ⟨ab, ao, spot⟩ := a
        have h0 := hcell 0 (by omega)
        have hspot : spot = none := by simpa [Addr.add] using World.cell?_spot h0
        subst hspot
        refine ⟨ab, ao, rfl, Nat.zero_le _, ?_, fun k hk => ?_⟩
        · have := World.block_lt_of_cell? W _ h0
          simpa [ofAdd] using this
        · rw [List.length_take] at hk
          have hck := hcell k (by omega)
          rw [ofAdd] at hck
          rw [hck]
          have hkl : k < len' := by omega
          simp [atB, List.getD_eq_getElem?_getD, List.getElem?_take, hkl]
    · rw [hx]
      rw [DataW.weights, Try.underlying27]
      simp only [List.mem_cons]
      left
      rw [bytesU8]
      simp [lits]
      omega
end
end Go.Proofs.Ytghcaplhanjgbaa
