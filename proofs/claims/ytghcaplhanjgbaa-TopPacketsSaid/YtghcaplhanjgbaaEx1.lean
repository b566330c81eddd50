/- Extension fields: what Check, Append and Parse compute, and the plain laws between them. No function of the program occurs here. -/
import Derived.Test.YtghcaplhanjgbaaExt
import Derived.Test.YtghcaplhanjgbaaWireMem
namespace Go.Proofs.Ytghcaplhanjgbaa
open Go.RowKit
set_option linter.unusedSimpArgs false
set_option linter.unusedVariables false
set_option maxRecDepth 100000
theorem numB_app' (l : List Int) (x : Int) : numB (l ++ [x]) = stepB (numB l) x := by unfold numB; rw [List.foldl_append]; rfl
theorem numB_bytesB' (k : Nat) : ∀ n : Int, 0 ≤ n → n < 256 ^ k → n < 18446744073709551616 → numB (bytesB k n) = n := by
  induction k with
  | zero => intro n h0 h1 _; simp at h1; simp [bytesB, numB]; omega
  | succ k ih =>
    intro n h0 h1 h2
    have h3 : n / 256 < 256 ^ k := by rw [Int.pow_succ] at h1; omega
    rw [bytesB, numB_app', ih (n / 256) (by omega) h3 (by omega)]
    unfold stepB; omega
theorem numB_le_pow' {L : List Int} (h : Byt L) : numB L < 256 ^ L.length := by
  have key : ∀ k : Nat, k ≤ L.length → numB (L.take k) < 256 ^ k := fun k => by
    induction k with
    | zero => intro _; simp [numB]
    | succ k ih =>
      intro hk
      have h1 := ih (by omega)
      have hx := h.at k
      have h2 := (numB_range (L.take k)).1
      rw [numB_succ L k (by omega), Int.pow_succ]
      unfold stepB
      omega
  have := key L.length (Nat.le_refl _)
  rwa [List.take_length] at this
theorem bytes_numB' : ∀ (k : Nat) (l : List Int), Byt l → l.length = k → k ≤ 8 → bytesB k (numB l) = l := by
  intro k
  induction k with
  | zero => intro l _ h _; rw [List.eq_nil_of_length_eq_zero h]; rfl
  | succ k ih =>
    intro l hb hl h8
    obtain ⟨m, x, rfl⟩ : ∃ m x, l = m ++ [x] := ⟨l.dropLast, l.getLast (by intro h; rw [h] at hl; simp at hl), (List.dropLast_concat_getLast _).symm⟩
    have hm : m.length = k := by simpa using hl
    have hbm : Byt m := fun y hy => hb y (by simp [hy])
    have hx := hb x (by simp)
    have h1 := numB_le_pow' hbm
    have h0 := (numB_range m).1
    have h2 : (256 : Int) ^ m.length ≤ 256 ^ 7 := by
      rw [hm]
      have : (256 : Int) ^ 7 = 256 ^ k * 256 ^ (7 - k) := by rw [← Int.pow_add]; congr 1; omega
      have a : (0 : Int) < 256 ^ k := Int.pow_pos (by omega)
      have b : (0 : Int) < 256 ^ (7 - k) := Int.pow_pos (by omega)
      rw [this]
      have c : (256 : Int) ^ k * 1 ≤ 256 ^ k * 256 ^ (7 - k) := Int.mul_le_mul_of_nonneg_left (by omega) (by omega)
      omega
    have h3 : (256 : Int) ^ 7 = 72057594037927936 := by decide
    rw [numB_app', bytesB]
    have e : stepB (numB m) x = numB m * 256 + x := by unfold stepB; omega
    rw [e, show (numB m * 256 + x) / 256 = numB m by omega, show (numB m * 256 + x) % 256 = x by omega, ih m hbm hm (by omega)]
abbrev Flds := List (Int × List Int)
/-- the error of a field of this kind and so many bytes -/
def chkE (kd n : Int) : Int := if 0 ≤ kd ∧ kd ≤ 65535 then (if 12 ≤ n ∧ n ≤ 256 ∧ n % 4 = 0 then 0 else 7) else 3
/-- the first error of fields -/
def firE : Flds → Int
  | [] => 0
  | t :: r => if chkE t.1 t.2.length = 0 then firE r else chkE t.1 t.2.length
def apxE (L : Flds) : Int := if 16 < L.length then 6 else firE L
def fldB (t : Int × List Int) : List Int := bytesB 2 t.1 ++ bytesB 2 (4 + t.2.length) ++ t.2
def fldsB : Flds → List Int
  | [] => []
  | t :: r => fldB t ++ fldsB r
/-- the fields are all valid -/
def AllV (L : Flds) : Prop := ∀ t ∈ L, chkE t.1 t.2.length = 0 ∧ Byt t.2
def pkd (l : List Int) : Int := numB (l.take 2)
def psz (l : List Int) : Nat := (numB ((l.drop 2).take 2)).toNat
/-- Parse: fields so far, and the bytes that are left -/
def prs : Nat → Flds → List Int → Flds × List Int × Int
  | 0, acc, _ => (acc, [], 0)
  | f + 1, acc, l =>
    if l.length = 0 then (acc, [], 0)
    else if l.length = 12 then (acc, l, 0)
    else if l.length < 16 then ([], [], 5)
    else if psz l < 16 ∨ psz l % 4 ≠ 0 then ([], [], 7)
    else if l.length < psz l then ([], [], 5)
    else if acc.length = 16 ∨ 260 < psz l then ([], [], 6)
    else prs f (acc ++ [(pkd l, (l.take (psz l)).drop 4)]) (l.drop (psz l))
def prsL (l : List Int) : Flds := (prs l.length [] l).1
def prsA (l : List Int) : List Int := (prs l.length [] l).2.1
def prsE (l : List Int) : Int := (prs l.length [] l).2.2
theorem xchk_ok {kd n : Int} : chkE kd n = 0 ↔ (0 ≤ kd ∧ kd ≤ 65535) ∧ 12 ≤ n ∧ n ≤ 256 ∧ n % 4 = 0 := by
  unfold chkE
  split
  · split
    · omega
    · omega
  · omega
theorem chk_form {kd n : Int} (h1 : 0 ≤ kd ∧ kd ≤ 65535) (h2 : ¬(12 ≤ n ∧ n ≤ 256 ∧ n % 4 = 0)) : chkE kd n = 7 := by unfold chkE; rw [if_pos h1, if_neg h2]
theorem chk_range {kd n : Int} (h1 : ¬(0 ≤ kd ∧ kd ≤ 65535)) : chkE kd n = 3 := by unfold chkE; rw [if_neg h1]
theorem kdL_cons (t : Int × List Int) (r : Flds) (k : Nat) : kdL (t :: r) (k + 1) = kdL r k := rfl
theorem dtL_cons (t : Int × List Int) (r : Flds) (k : Nat) : dtL (t :: r) (k + 1) = dtL r k := rfl
theorem firE_at : ∀ (L : Flds) (k : Nat), (∀ j, j < k → chkE (kdL L j) (dtL L j).length = 0) → k < L.length → chkE (kdL L k) (dtL L k).length ≠ 0 → firE L = chkE (kdL L k) (dtL L k).length
  | [], k, _, h, _ => by simp at h
  | t :: r, 0, _, _, h => by
    unfold firE
    rw [if_neg (show ¬ chkE t.1 t.2.length = 0 from h)]
    rfl
  | t :: r, k + 1, h0, h1, h2 => by
    have h3 := h0 0 (by omega)
    unfold firE
    rw [if_pos (show chkE t.1 t.2.length = 0 from h3), firE_at r k (fun j hj => h0 (j + 1) (by omega)) (by simpa using h1) h2]
    rfl
theorem firE_ok : ∀ (L : Flds), (∀ j, j < L.length → chkE (kdL L j) (dtL L j).length = 0) → firE L = 0
  | [], _ => rfl
  | t :: r, h => by
    have h3 := h 0 (by simp)
    unfold firE
    rw [if_pos (show chkE t.1 t.2.length = 0 from h3)]
    exact firE_ok r fun j hj => h (j + 1) (by simpa using hj)
theorem firE_all : ∀ {L : Flds}, firE L = 0 → ∀ t ∈ L, chkE t.1 t.2.length = 0
  | [], _, _, h => by cases h
  | t :: r, h, x, hx => by
    unfold firE at h
    by_cases h0 : chkE t.1 t.2.length = 0
    · rw [if_pos h0] at h
      rcases List.mem_cons.1 hx with rfl | hx
      · exact h0
      · exact firE_all h x hx
    · rw [if_neg h0] at h
      exact absurd h h0
theorem firE_valid {L : Flds} (h : ∀ t ∈ L, chkE t.1 t.2.length = 0) : firE L = 0 := by
  induction L with
  | nil => rfl
  | cons t r ih =>
    unfold firE
    rw [if_pos (h t (by simp)), ih fun x hx => h x (by simp [hx])]
theorem kd_mem {L : Flds} {k : Nat} (h : k < L.length) : (kdL L k, dtL L k) ∈ L := by
  unfold kdL dtL
  rw [List.getD_eq_getElem?_getD, List.getElem?_eq_getElem h]
  exact List.getElem_mem h
theorem fldsB_app (L M : Flds) : fldsB (L ++ M) = fldsB L ++ fldsB M := by
  induction L with
  | nil => rfl
  | cons t r ih => simp [fldsB, ih]
theorem fldsB_snoc (L : Flds) (t : Int × List Int) : fldsB (L ++ [t]) = fldsB L ++ fldB t := by rw [fldsB_app]; simp [fldsB]
theorem fl_take {L : Flds} {k : Nat} (h : k < L.length) : L.take (k + 1) = L.take k ++ [(kdL L k, dtL L k)] := by
  rw [List.take_succ_eq_append_getElem h]
  unfold kdL dtL
  rw [List.getD_eq_getElem?_getD, List.getElem?_eq_getElem h]
  rfl
theorem fldsB_take {L : Flds} {k : Nat} (h : k < L.length) : fldsB (L.take (k + 1)) = fldsB (L.take k) ++ bytesB 2 (kdL L k) ++ bytesB 2 (4 + (dtL L k).length) ++ dtL L k := by
  rw [fl_take h, fldsB_snoc]
  unfold fldB
  simp
theorem fldB_length (t : Int × List Int) : (fldB t).length = 4 + t.2.length := by unfold fldB; simp [bytesB_length]; omega
theorem fldB_byt {t : Int × List Int} (h : Byt t.2) : Byt (fldB t) := ((bytesB_byt _ _).app (bytesB_byt _ _)).app h
theorem fldsB_byt {L : Flds} (h : ∀ t ∈ L, Byt t.2) : Byt (fldsB L) := by
  induction L with
  | nil => exact Byt.nil
  | cons t r ih => exact (fldB_byt (h t (by simp))).app (ih fun x hx => h x (by simp [hx]))
theorem fldsB_le {L : Flds} {m : Nat} (h : ∀ t ∈ L, t.2.length ≤ m) : (fldsB L).length ≤ L.length * (4 + m) := by
  induction L with
  | nil => simp [fldsB]
  | cons t r ih =>
    have h1 := ih fun x hx => h x (by simp [hx])
    have h2 := h t (by simp)
    simp only [fldsB, List.length_append, fldB_length, List.length_cons, Nat.add_mul]
    omega
theorem psz_le (l : List Int) (hb : Byt l) : psz l ≤ 65535 := by
  have h := numB_le_pow' ((hb.drop 2).take 2)
  have h1 : ((l.drop 2).take 2).length ≤ 2 := List.length_take_le _ _
  have h2 : (256 : Int) ^ ((l.drop 2).take 2).length ≤ 65536 := by
    have h3 : ((l.drop 2).take 2).length = 0 ∨ ((l.drop 2).take 2).length = 1 ∨ ((l.drop 2).take 2).length = 2 := by omega
    rcases h3 with e | e | e <;> rw [e] <;> decide
  unfold psz
  omega
theorem pkd_rng (l : List Int) (hb : Byt l) : 0 ≤ pkd l ∧ pkd l ≤ 65535 := by
  have h := numB_le_pow' (hb.take 2)
  have h0 := (numB_range (l.take 2)).1
  have h1 : (l.take 2).length ≤ 2 := List.length_take_le _ _
  have h2 : (256 : Int) ^ (l.take 2).length ≤ 65536 := by
    have h3 : (l.take 2).length = 0 ∨ (l.take 2).length = 1 ∨ (l.take 2).length = 2 := by omega
    rcases h3 with e | e | e <;> rw [e] <;> decide
  unfold pkd
  omega
/-- the bytes of the field that was read -/
theorem fldB_read {l : List Int} (hb : Byt l) (h16 : 16 ≤ psz l) (hl : psz l ≤ l.length) : fldB (pkd l, (l.take (psz l)).drop 4) = l.take (psz l) := by
  obtain ⟨n, hn⟩ : ∃ n, psz l = n := ⟨_, rfl⟩
  rw [hn] at h16 hl ⊢
  have e1 : (l.take 2).length = 2 := by rw [List.length_take]; omega
  have e2 : ((l.drop 2).take 2).length = 2 := by rw [List.length_take, List.length_drop]; omega
  have hz : (4 : Int) + ((l.take n).drop 4).length = numB ((l.drop 2).take 2) := by
    have h1 := (numB_range ((l.drop 2).take 2)).1
    have h2 : (numB ((l.drop 2).take 2)).toNat = n := hn
    rw [List.length_drop, List.length_take]
    omega
  unfold fldB pkd
  simp only
  rw [hz, bytes_numB' 2 _ (hb.take 2) e1 (by omega), bytes_numB' 2 _ ((hb.drop 2).take 2) e2 (by omega)]
  have e3 : l.take 2 ++ (l.drop 2).take 2 = l.take 4 := by
    rw [show (4 : Nat) = 2 + 2 from rfl, List.take_add]
  rw [e3]
  have e4 : l.take 4 = (l.take n).take 4 := by rw [List.take_take, Nat.min_eq_left (by omega)]
  rw [e4, List.take_append_drop]
theorem prs_inv : ∀ (f : Nat) (acc : Flds) (l : List Int), AllV acc → acc.length ≤ 16 → l.length ≤ f → Byt l →
    ((prs f acc l).2.2 = 0 → fldsB (prs f acc l).1 ++ (prs f acc l).2.1 = fldsB acc ++ l ∧ AllV (prs f acc l).1 ∧ (prs f acc l).1.length ≤ 16 ∧ ((prs f acc l).2.1 = [] ∨ (prs f acc l).2.1.length = 12)) ∧
    ((prs f acc l).2.2 ≠ 0 → (prs f acc l).1 = [] ∧ (prs f acc l).2.1 = [] ∧ 0 < (prs f acc l).2.2)
  | 0, acc, l, ha, hc, hf, hb => by
    have : l = [] := List.eq_nil_of_length_eq_zero (by omega)
    subst this
    simp [prs, ha, hc]
  | f + 1, acc, l, ha, hc, hf, hb => by
    rw [prs]
    by_cases h0 : l.length = 0
    · have : l = [] := List.eq_nil_of_length_eq_zero h0
      subst this
      simp [ha, hc]
    rw [if_neg h0]
    by_cases h1 : l.length = 12
    · simp [h1, ha, hc]
    rw [if_neg h1]
    by_cases h2 : l.length < 16
    · simp [h2]
    rw [if_neg h2]
    by_cases h3 : psz l < 16 ∨ psz l % 4 ≠ 0
    · simp [h3]
    rw [if_neg h3]
    by_cases h4 : l.length < psz l
    · simp [h4]
    rw [if_neg h4]
    by_cases h5 : acc.length = 16 ∨ 260 < psz l
    · simp [h5]
    rw [if_neg h5]
    have hr := fldB_read hb (by omega) (by omega)
    have hk := pkd_rng l hb
    have hdl : ((l.take (psz l)).drop 4).length = psz l - 4 := by rw [List.length_drop, List.length_take]; omega
    have ha' : AllV (acc ++ [(pkd l, (l.take (psz l)).drop 4)]) := by
      intro t ht
      rcases List.mem_append.1 ht with ht | ht
      · exact ha t ht
      · rw [List.mem_singleton.1 ht]
        refine ⟨xchk_ok.2 ⟨hk, ?_⟩, (hb.take _).drop _⟩
        simp only
        rw [hdl]
        omega
    have h6 := prs_inv f (acc ++ [(pkd l, (l.take (psz l)).drop 4)]) (l.drop (psz l)) ha' (by simp; omega) (by rw [List.length_drop]; omega) (hb.drop _)
    refine ⟨fun h => ?_, h6.2⟩
    obtain ⟨g1, g2⟩ := h6.1 h
    refine ⟨?_, g2⟩
    rw [g1, fldsB_snoc, hr, List.append_assoc, List.take_append_drop]
/-- what was read is written as it was; an error returns nothing -/
theorem prs_back {l : List Int} (hb : Byt l) : (prsE l = 0 → fldsB (prsL l) ++ prsA l = l ∧ AllV (prsL l) ∧ (prsL l).length ≤ 16 ∧ (prsA l = [] ∨ (prsA l).length = 12)) ∧ (prsE l ≠ 0 → prsL l = [] ∧ prsA l = [] ∧ 0 < prsE l) := by
  have h := prs_inv l.length [] l (fun t ht => by cases ht) (by simp) (Nat.le_refl _) hb
  exact h
theorem apx_valid {L : Flds} (h : AllV L) (hl : L.length ≤ 16) : apxE L = 0 := by
  unfold apxE
  rw [if_neg (by omega), firE_valid fun t ht => (h t ht).1]
/-- fields that were written are read back -/
theorem prs_flds : ∀ (L : Flds) (f : Nat) (acc : Flds) (a : List Int), AllV L → acc.length + L.length ≤ 16 → (a = [] ∨ a.length = 12) → (fldsB L ++ a).length ≤ f → prs f acc (fldsB L ++ a) = (acc ++ L, a, 0)
  | [], f, acc, a, _, hc, ha, hf => by
    simp only [fldsB, List.nil_append, List.append_nil] at hf ⊢
    cases f with
    | zero => rw [List.eq_nil_of_length_eq_zero (by omega : a.length = 0)]; rfl
    | succ f =>
      rw [prs]
      rcases ha with rfl | ha
      · simp
      · rw [if_neg (by omega), if_pos ha]
  | t :: r, f, acc, a, hv, hc, ha, hf => by
    obtain ⟨hvt, hbt⟩ := hv t (by simp)
    obtain ⟨hk, h12, h256, h4⟩ := xchk_ok.1 hvt
    have hlen : (fldsB (t :: r) ++ a).length = 4 + t.2.length + (fldsB r ++ a).length := by
      simp only [fldsB, List.length_append, fldB_length]; omega
    have hl : ∃ q, fldsB (t :: r) ++ a = bytesB 2 t.1 ++ (bytesB 2 (4 + t.2.length) ++ (t.2 ++ q)) ∧ q = fldsB r ++ a := ⟨_, by simp [fldsB, fldB], rfl⟩
    obtain ⟨q, hq, hqe⟩ := hl
    have hp2 : (bytesB 2 t.1).length = 2 := bytesB_length _ _
    have hp2' : (bytesB 2 (4 + (t.2.length : Int))).length = 2 := bytesB_length _ _
    have e2 : (256 : Int) ^ 2 = 65536 := by decide
    have hkd : pkd (fldsB (t :: r) ++ a) = t.1 := by
      unfold pkd
      rw [hq, List.take_append_of_le_length (by omega), List.take_of_length_le (by omega)]
      exact numB_bytesB' 2 _ (by omega) (by omega) (by omega)
    have hsz : psz (fldsB (t :: r) ++ a) = 4 + t.2.length := by
      unfold psz
      rw [hq, List.drop_left' hp2, List.take_append_of_le_length (by omega), List.take_of_length_le (by omega), numB_bytesB' 2 _ (by omega) (by omega) (by omega)]
      omega
    cases f with
    | zero => omega
    | succ f =>
      rw [prs, hkd, hsz, if_neg (by omega), if_neg (by omega), if_neg (by omega), if_neg (by omega), if_neg (by omega), if_neg (by simp only [List.length_cons] at hc; omega)]
      have hd : (fldsB (t :: r) ++ a).drop (4 + t.2.length) = fldsB r ++ a := by
        rw [show fldsB (t :: r) ++ a = fldB t ++ (fldsB r ++ a) by simp [fldsB]]
        exact List.drop_left' (fldB_length t)
      have ht : ((fldsB (t :: r) ++ a).take (4 + t.2.length)).drop 4 = t.2 := by
        rw [show fldsB (t :: r) ++ a = fldB t ++ (fldsB r ++ a) by simp [fldsB], List.take_left' (fldB_length t)]
        unfold fldB
        exact List.drop_left' (by simp [bytesB_length])
      rw [hd, ht, show (t.1, t.2) = t from rfl, prs_flds r f (acc ++ [t]) a (fun x hx => hv x (by simp [hx])) (by simp only [List.length_append, List.length_cons, List.length_nil] at hc ⊢; omega) ha (by omega)]
      simp
theorem prs_of {L : Flds} {a : List Int} (hv : AllV L) (hc : L.length ≤ 16) (ha : a = [] ∨ a.length = 12) : prsL (fldsB L ++ a) = L ∧ prsA (fldsB L ++ a) = a ∧ prsE (fldsB L ++ a) = 0 := by
  have h := prs_flds L (fldsB L ++ a).length [] a hv (by simpa using hc) ha (Nat.le_refl _)
  unfold prsL prsA prsE
  rw [h]
  simp
end Go.Proofs.Ytghcaplhanjgbaa
