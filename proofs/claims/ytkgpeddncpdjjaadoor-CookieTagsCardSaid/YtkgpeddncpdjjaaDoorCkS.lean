/- The jar of cookies: CookieTags. -/
import Derived.Test.YtkgpeddncpdjjaaDoorCkR
namespace Go.Proofs.YtkgpeddncpdjjaaDoor
open Go.RowKit
set_option linter.unusedSimpArgs false
set_option linter.unusedVariables false
set_option maxRecDepth 100000
open Go.RowKit
theorem atB_set (l : List Int) (k j : Nat) (x : Int) (hk : k < l.length) : atB (l.set k x) j = if j = k then x else atB l j := by
  unfold atB
  rw [List.getD_eq_getElem?_getD, List.getD_eq_getElem?_getD, List.getElem?_set]
  by_cases h : j = k
  · subst h; rw [if_pos rfl, if_pos rfl, if_pos hk]; rfl
  · rw [if_neg (fun e => h e.symm), if_neg h]
/-- byte i of a number, the least first -/
def byI (ch : Int) (i : Nat) : Int := IntKind.u8.wrap (ch / 2 ^ (8 * i))
def xb (x y : Int) : Int := bits .xor .u8 x y
theorem byI_rng (ch : Int) (i : Nat) : 0 ≤ byI ch i ∧ byI ch i ≤ 255 := by unfold byI; rw [IntKind.wrap_u8]; omega
theorem xb_nat {x y : Int} (hx : 0 ≤ x ∧ x ≤ 255) (hy : 0 ≤ y ∧ y ≤ 255) : xb x y = ((x.toNat ^^^ y.toNat : Nat) : Int) := Go.u8_xor x y hx.1 (by omega) hy.1 (by omega)
theorem xb_rng {x y : Int} (hx : 0 ≤ x ∧ x ≤ 255) (hy : 0 ≤ y ∧ y ≤ 255) : 0 ≤ xb x y ∧ xb x y ≤ 255 := by
  rw [xb_nat hx hy]
  have h : x.toNat ^^^ y.toNat < 2 ^ 8 := Nat.xor_lt_two_pow (by omega) (by omega)
  omega
theorem xb_ne {x y : Int} (hx : 0 ≤ x ∧ x ≤ 255) (hy : 0 ≤ y ∧ y ≤ 255) (h : y ≠ 0) : xb x y ≠ x := by
  rw [xb_nat hx hy]
  intro e
  have e2 : x.toNat ^^^ y.toNat = x.toNat := by omega
  have e3 : x.toNat ^^^ (x.toNat ^^^ y.toNat) = x.toNat ^^^ x.toNat := by rw [e2]
  rw [← Nat.xor_assoc, Nat.xor_self, Nat.zero_xor] at e3
  omega
/-- the bytes behind k rounds -/
def xbL (C : List Int) (ch : Int) : Nat → List Int
  | 0 => C
  | k + 1 => (xbL C ch k).set (44 + k) (xb (atB (xbL C ch k) (44 + k)) (byI ch k))
theorem xbL_len (C : List Int) (ch : Int) (k : Nat) : (xbL C ch k).length = C.length := by
  induction k with
  | zero => rfl
  | succ k ih => rw [xbL, List.length_set, ih]
theorem xbL_byt {C : List Int} (h : Byt C) (ch : Int) (k : Nat) : Byt (xbL C ch k) := by
  induction k with
  | zero => exact h
  | succ k ih => exact ih.set _ (xb_rng (ih.at _) (byI_rng _ _)).1 (xb_rng (ih.at _) (byI_rng _ _)).2
theorem xbL_at {C : List Int} (ch : Int) (k : Nat) (hk : 44 + k ≤ C.length) (j : Nat) : atB (xbL C ch k) j = if 44 ≤ j ∧ j < 44 + k then xb (atB C j) (byI ch (j - 44)) else atB C j := by
  induction k with
  | zero => rw [if_neg (by omega)]; rfl
  | succ k ih =>
    have ih' := ih (by omega)
    rw [xbL, atB_set _ _ _ _ (by rw [xbL_len]; omega)]
    by_cases h : j = 44 + k
    · subst h
      rw [if_pos rfl, if_pos (by omega), show 44 + k - 44 = k by omega]
      congr 1
      rw [ih', if_neg (by omega)]
    · rw [if_neg h, ih']
      by_cases h2 : 44 ≤ j ∧ j < 44 + k
      · rw [if_pos h2, if_pos (by omega)]
      · rw [if_neg h2, if_neg (by omega)]
theorem stepdn {ch P : Int} (hP : 0 < P) (h0 : 0 ≤ ch) (h : ch < P * 256) (h2 : ch / P % 256 = 0) : ch < P := by
  have h3 : ch / P < 256 := Int.ediv_lt_of_lt_mul hP (by rw [Int.mul_comm]; exact h)
  have h4 : 0 ≤ ch / P := Int.ediv_nonneg h0 (by omega)
  have h5 : ch / P = 0 := by omega
  have h6 := Int.emod_add_mul_ediv ch P
  rw [h5, Int.mul_zero, Int.add_zero] at h6
  rw [← h6]
  exact Int.emod_lt_of_pos ch hP
theorem byI_256 (ch : Int) (i : Nat) : byI ch i = ch / 256 ^ i % 256 := by
  unfold byI
  rw [IntKind.wrap_u8, Int.pow_mul]
  rfl
theorem byI_down {ch : Int} (h0 : 0 ≤ ch) (key : ∀ i, i < 8 → byI ch i = 0) : ∀ k, k ≤ 8 → ch < 256 ^ 8 → ch < 256 ^ (8 - k) := by
  intro k
  induction k with
  | zero => intro _ h; exact h
  | succ k ih =>
    intro hk h
    have h1 := ih (by omega) h
    have h2 := key (8 - (k + 1)) (by omega)
    rw [byI_256] at h2
    refine stepdn (Int.pow_pos (by omega)) h0 ?_ h2
    rw [show (8 - k : Nat) = (8 - (k + 1)) + 1 by omega, Int.pow_succ] at h1
    exact h1
theorem byI_some {ch : Int} (h0 : 0 ≤ ch) (h1 : ch ≤ 18446744073709551615) (h : ch ≠ 0) : ∃ i, i < 8 ∧ byI ch i ≠ 0 := by
  apply Classical.byContradiction
  intro hn
  have key : ∀ i, i < 8 → byI ch i = 0 := fun i hi => Classical.byContradiction fun h2 => hn ⟨i, hi, h2⟩
  have := byI_down h0 key 8 (by omega) (by rw [p8]; omega)
  simp at this
  omega
theorem numB_inj {l m : List Int} (hl : Byt l) (hm : Byt m) (h8 : l.length = 8) (h8' : m.length = 8) (h : numB l = numB m) : l = m := by
  rw [← bytes_numB 8 l hl h8 (by omega), ← bytes_numB 8 m hm h8' (by omega), h]
theorem atB_take (l : List Int) (k j : Nat) (h : j < k) : atB (l.take k) j = atB l j := by
  unfold atB
  rw [List.getD_eq_getElem?_getD, List.getD_eq_getElem?_getD, List.getElem?_take, if_pos h]
theorem atB_drop (l : List Int) (k j : Nat) : atB (l.drop k) j = atB l (k + j) := by
  unfold atB
  rw [List.getD_eq_getElem?_getD, List.getD_eq_getElem?_getD, List.getElem?_drop]
theorem ext_atB {l m : List Int} (hl : l.length = m.length) (h : ∀ j, j < l.length → atB l j = atB m j) : l = m := by
  apply List.ext_getElem hl
  intro i h1 h2
  have := h i h1
  unfold atB at this
  rw [List.getD_eq_getElem?_getD, List.getD_eq_getElem?_getD, List.getElem?_eq_getElem h1, List.getElem?_eq_getElem h2] at this
  exact this
def errOf : Value → Value
  | .tuple a => a.getD 2 undef
  | _ => undef
theorem errOf_V (s k g : Int) (l : List Int) : errOf (opV s k g l) = .int .i64 (opE s k g l) := rfl
/-- a cookie with another tag: what a jar makes of it -/
theorem tag_open {s k g g' n c0 c1 s0 s1 ch : Int} (hg : Gn g) (hn : U64 n) (hc0 : U64 c0) (hc1 : U64 c1) (hs0 : U64 s0) (hs1 : U64 s1) (h0 : U64 ch) (hne : ch ≠ 0) (hst : staleB k g' g = false) :
    opV s k g' (xbL (ckB s g n c0 c1 s0 s1) ch 8) = .tuple #[keyV 0 0, keyV 0 0, .int .i64 16] := by
  have hl := ckB_len s g n c0 c1 s0 s1
  have hb := ckB_byt s g n c0 c1 s0 s1
  have hv := ck_open (s := s) (k := k) (g' := g') hg hn hc0 hc1 hs0 hs1
  rw [if_neg (by rw [hst]; decide)] at hv
  have hE : opE s k g' (ckB s g n c0 c1 s0 s1) = 0 := by
    have h2 := congrArg errOf hv
    rw [errOf_V] at h2
    have h3 : Value.int .i64 (opE s k g' (ckB s g n c0 c1 s0 s1)) = .int .i64 0 := h2
    injection h3
  have hf : fB (ckB s g n c0 c1 s0 s1) 0 4 = g := by
    have e : ckB s g n c0 c1 s0 s1 = ckP g n (xr c0 (padF s g n 0)) (xr c1 (padF s g n 1)) (xr s0 (padF s g n 2)) (xr s1 (padF s g n 3)) (jtag s g (sbB g n (xr c0 (padF s g n 0)) (xr c1 (padF s g n 1)) (xr s0 (padF s g n 2)) (xr s1 (padF s g n 3)) 4)) := by
      unfold ckB; exact ckP_of _ _ _ _ _ _ _
    rw [e]
    exact (ckP_read hg hn (xr_u64 hc0 (padF_u64 s g n 0)) (xr_u64 hc1 (padF_u64 s g n 1)) (xr_u64 hs0 (padF_u64 s g n 2)) (xr_u64 hs1 (padF_u64 s g n 3)) (jtag_u64 s g _)).1
  generalize ckB s g n c0 c1 s0 s1 = C at hl hb hE hf ⊢
  have hlx := xbL_len C ch 8
  have hbx := xbL_byt hb ch 8
  have hat := fun j => xbL_at (C := C) ch 8 (by omega) j
  have ht : (xbL C ch 8).take 44 = C.take 44 := by
    refine ext_atB (by rw [List.length_take, List.length_take, hlx]) fun j hj => ?_
    rw [List.length_take] at hj
    rw [atB_take _ _ _ (by omega), atB_take _ _ _ (by omega), hat, if_neg (by omega)]
  have hf' : fB (xbL C ch 8) 0 4 = fB C 0 4 := by
    unfold fB
    rw [List.drop_zero, List.drop_zero]
    have : ∀ l : List Int, l.take 4 = (l.take 44).take 4 := fun l => by rw [List.take_take]; rfl
    rw [this (xbL C ch 8), ht, ← this]
  have hg44 : fB (xbL C ch 8) 44 8 ≠ fB C 44 8 := by
    intro h
    unfold fB at h
    have l1 : (((xbL C ch 8).drop 44).take 8).length = 8 := by rw [List.length_take, List.length_drop, hlx]; omega
    have l2 : ((C.drop 44).take 8).length = 8 := by rw [List.length_take, List.length_drop]; omega
    have h2 := numB_inj ((hbx.drop 44).take 8) ((hb.drop 44).take 8) l1 l2 h
    obtain ⟨i, hi, hx⟩ := byI_some h0.1 h0.2 hne
    have h3 := congrArg (fun l => atB l i) h2
    rw [atB_take _ _ _ hi, atB_take _ _ _ hi, atB_drop, atB_drop, hat, if_pos (by omega), show 44 + i - 44 = i by omega] at h3
    exact xb_ne (hb.at _) (byI_rng ch i) hx h3
  generalize xbL C ch 8 = X at hlx ht hf' hg44 ⊢
  refine opV_err (by
    unfold opE at hE ⊢
    rw [if_neg (by omega), if_neg (by omega), hf, hst, if_neg (by decide)] at hE
    rw [if_neg (by omega), if_neg (by omega), hf', hf, hst, if_neg (by decide), ht]
    split at hE
    · rename_i h1
      rw [if_neg (by rw [← h1]; exact hg44)]
    · omega) (by decide)
/-- a cookie of a generation that has not begun -/
theorem later_open {s k g n c0 c1 s0 s1 : Int} (hn : U64 n) (hc0 : U64 c0) (hc1 : U64 c1) (hs0 : U64 s0) (hs1 : U64 s1) (hg : g < 2) :
    opV s k g ((ckB s 1 n c0 c1 s0 s1).set 3 2) = .tuple #[keyV 0 0, keyV 0 0, .int .i64 17] := by
  have hl := ckB_len s 1 n c0 c1 s0 s1
  have h4 : ((ckB s 1 n c0 c1 s0 s1).set 3 2).take 4 = [0, 0, 0, 2] := by
    have e : ckB s 1 n c0 c1 s0 s1 = ckP 1 n (xr c0 (padF s 1 n 0)) (xr c1 (padF s 1 n 1)) (xr s0 (padF s 1 n 2)) (xr s1 (padF s 1 n 3)) (jtag s 1 (sbB 1 n (xr c0 (padF s 1 n 0)) (xr c1 (padF s 1 n 1)) (xr s0 (padF s 1 n 2)) (xr s1 (padF s 1 n 3)) 4)) := by
      unfold ckB; exact ckP_of _ _ _ _ _ _ _
    rw [e]
    unfold ckP
    rw [show bytesB 4 1 = [0, 0, 0, 1] by decide]
    rfl
  refine opV_err (by
    unfold opE
    have hf : fB ((ckB s 1 n c0 c1 s0 s1).set 3 2) 0 4 = 2 := by unfold fB; rw [List.drop_zero, h4]; decide
    rw [List.length_set, if_neg (by omega), if_neg (by omega), hf, if_pos (by unfold staleB; rw [decide_eq_true hg]; simp)]) (by decide)
end Go.Proofs.YtkgpeddncpdjjaaDoor
