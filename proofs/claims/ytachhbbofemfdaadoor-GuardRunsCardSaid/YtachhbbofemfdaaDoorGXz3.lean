/- What the functions of package wire that make memory compute, and those of its reference. Extension fields: what Check, Append and Parse compute, and the plain laws between them. No function of the program occurs here. append of cells of whatever type to a row of the call's own. No function of the program occurs here. What slices.Equal and slices.Clone compute on byte slices. Extension fields: contracts of Check, Append, Auth and Split of the program, and of Check and Append of the reference. The contract of ext.Find. Extension fields: lists that the call made, and the contract of Parse, of the program and of the reference. -/
import Derived.Test.YtachhbbofemfdaaDoorGXz2
import Derived.Test.YtachhbbofemfdaaDoorGXz1
import Derived.Lib.SliceRun
namespace Go.Proofs.YtachhbbofemfdaaDoor
open Go.RowKit
set_option linter.unusedSimpArgs false
set_option linter.unusedVariables false
set_option maxRecDepth 100000
/-- the k lowest bytes of n, most significant first -/
def bytesB : Nat → Int → List Int
  | 0, _ => []
  | k + 1, n => bytesB k (n / 256) ++ [n % 256]
theorem bytesB_length (k : Nat) : ∀ n, (bytesB k n).length = k := by
  induction k with
  | zero => intro n; rfl
  | succ k ih => intro n; simp [bytesB, ih]
theorem bytesB_byt (k : Nat) : ∀ n, Byt (bytesB k n) := by
  induction k with
  | zero => intro n; exact Byt.nil
  | succ k ih => intro n; exact (ih _).app (Byt.nil.cons (by omega) (by omega))
theorem bytesB_at (k : Nat) : ∀ (n : Int) (i : Nat), i < k → atB (bytesB k n) i = n / 256 ^ (k - 1 - i) % 256 := by
  induction k with
  | zero => intro n i h; omega
  | succ k ih =>
    intro n i h
    unfold atB
    rw [bytesB, List.getD_eq_getElem?_getD]
    by_cases hi : i < k
    · rw [List.getElem?_append_left (by rw [bytesB_length]; exact hi), ← List.getD_eq_getElem?_getD]
      have := ih (n / 256) i hi
      unfold atB at this
      rw [this, Int.ediv_ediv_of_nonneg (by omega)]
      congr 2
      rw [show k + 1 - 1 - i = (k - 1 - i) + 1 by omega, Int.pow_succ, Int.mul_comm]
    · obtain rfl : i = k := by omega
      rw [List.getElem?_append_right (by rw [bytesB_length]; omega), bytesB_length]
      simp
theorem pow256 (k : Nat) : (2 : Int) ^ (8 * k) = 256 ^ k := by rw [Int.pow_mul]; rfl
/-- the row during the loop of Append -/
def apRow (l bs : List Int) (k : Nat) : List Int := l ++ (bs.take k ++ List.replicate (bs.length - k) 0)
theorem apRow_length (l bs : List Int) (k : Nat) (hk : k ≤ bs.length) : (apRow l bs k).length = l.length + bs.length := by simp [apRow]; omega
theorem apRow_zero (l bs : List Int) : apRow l bs 0 = l ++ List.replicate bs.length 0 := by simp [apRow]
theorem apRow_all (l bs : List Int) : apRow l bs bs.length = l ++ bs := by simp [apRow]
theorem apRow_set (l bs : List Int) (k : Nat) (hk : k < bs.length) : (apRow l bs k).set (l.length + k) (atB bs k) = apRow l bs (k + 1) := by
  unfold apRow
  rw [List.set_append, if_neg (by omega), List.set_append, if_neg (by simp; omega), take_succ' bs k hk, List.append_assoc]
  congr 2
  rw [show bs.length - k = (bs.length - (k + 1)) + 1 by omega, List.replicate_succ]
  simp [show min k bs.length = k by omega]
set_option maxHeartbeats 1000000 in
theorem append_ok (A : Option Addr) (nl c lo hi : Nat) (l : List Int) (n : Int) (s : Nat) (w : World) (hnl : l.length = nl) (h : Bs w lo hi A l) (hh : hi ≤ w.heap.size) (hm : nl ≤ 140737488351232) (hn : 0 ≤ n ∧ n < 18446744073709551616) (hs1 : 1 ≤ s) (hs2 : s ≤ 8) (hf : n < 256 ^ s) :
    Calls Tryd.prog 45 #[.slice A nl c, .int .u64 n, .int .i64 s] w fun e w' => e = .returned (.tuple #[.slice (some ⟨w.heap.size, 0, none⟩) (nl + s) (nl + s), .int .i64 0]) ∧ Ow w' w.heap.size (some ⟨w.heap.size, 0, none⟩) (nl + s) (l ++ bytesB s n) ∧ w'.heap.size = w.heap.size + 1 ∧ Below w.heap.size w w' := by
  subst hnl
  have hn1 := hn.1
  have hn2 := hn.2
  have hi1 : (1 : Int) ≤ s := by omega
  have hi2 : (s : Int) ≤ 8 := by omega
  have hmk := fun W => makeU8 .i64 .i64 (l.length + s) (by omega) W
  rw [Int.natCast_add] at hmk
  have hq : (n / 2 ^ (8 * s) != 0) = false := by
    rw [pow256, Int.ediv_eq_zero_of_lt hn1 hf]; rfl
  have hO1 := Ow.made w (l.length + s) (by omega)
  have hB1 : Bs (w.alloc (.cells (madeCells #[.int .u8 0] (l.length + s)) 5)) lo hi A l := h.alloc hh _
  go_enter Tryd.func45, Tryd.ntmps45
  go_wp2_with (first | (go_at_call 78; ((with_reducible refine (sized_any _ _).mono ?_); rintro e w1 ⟨rfl, rfl⟩)) | (with_reducible refine wpList_copy_bs rfl (.tmp 27) (.tmp 28) rfl w.heap.size (l.length + s) (l.length + s) l.length c _ rfl rfl (by simp) rfl (by omega) hO1 hB1 ?_; intro w1 hO hg hz))
  all_goals
    have hO2 : Ow w1 w.heap.size (some ⟨w.heap.size, 0, none⟩) (l.length + s) (apRow l (bytesB s n) 0) := by
      rw [apRow_zero, bytesB_length]; simpa using hO
    have hb1 : Below w.heap.size w w1 := Below.trans ((Below.refl _ w).alloc (Nat.le_refl _) _) (below_of_grown hg (by simp) (by simp))
    have hz1 : w1.heap.size = w.heap.size + 1 := by simpa using hz
    clear hO hg hz hO1 hB1 hmk
    go_loopw [31] (fun i wr => ∃ k : Nat, k ≤ s ∧ i = .int .i64 k ∧ Ow wr w.heap.size (some ⟨w.heap.size, 0, none⟩) (l.length + s) (apRow l (bytesB s n) k) ∧ wr.heap.size = w.heap.size + 1 ∧ Below w.heap.size w wr) (fun i _ => s - (intOf i).toNat)
    case atStart => exact ⟨0, by omega, rfl, hO2, hz1, hb1⟩
    case round =>
      obtain ⟨k, hk, rfl, hR, hzr, hbr⟩ := hrel
      by_cases hlt : k < s
      · have hlen := apRow_length l (bytesB s n) k (by rw [bytesB_length]; omega)
        rw [bytesB_length] at hlen
        have hcell := hR.cell (k := l.length + k) (by omega)
        have hfz := hR.frozen (l.length + k)
        have hS := hR.set (l.length + k) (x := n / 2 ^ (8 * (s - 1 - k)) % 256) (by omega) (by omega)
        rw [show n / 2 ^ (8 * (s - 1 - k)) % 256 = atB (bytesB s n) k by rw [bytesB_at s n k hlt, pow256], apRow_set l (bytesB s n) k (by rw [bytesB_length]; omega)] at hS
        have hv := bytesB_at s n k hlt
        rw [← pow256] at hv
        rw [hv] at hS
        go_wp2
        exact ⟨⟨k + 1, by omega, by go_num, hS, by simpa [World.setCell] using hzr, hbr.setCell (by simp) _⟩, by simp [intOf]; omega⟩
      · obtain rfl : k = s := by omega
        go_wp2
        go_ret2
        refine ⟨rfl, ?_, hzr, hbr⟩
        have := apRow_all l (bytesB k n)
        rw [bytesB_length] at this
        rw [← this]; exact hR
theorem shr_ne (n : Int) (s : Nat) (hn : 0 ≤ n) (h : ¬ n < 256 ^ s) : (n / 2 ^ (8 * s) != 0) = true := by
  rw [pow256]
  have hp : (0 : Int) < 256 ^ s := Int.pow_pos (by omega)
  have h1 : 1 ≤ n / 256 ^ s := by rw [Int.le_ediv_iff_mul_le hp]; omega
  simp; omega
set_option maxHeartbeats 1000000 in
theorem fits_any (n : Int) (s : Nat) (w : World) (hn : 0 ≤ n ∧ n < 18446744073709551616) (hs : 1 ≤ s ∧ s ≤ 8) :
    Calls Tryd.prog 82 #[.int .u64 n, .int .i64 s] w fun e w' => e = .returned (.bool (decide (n < 256 ^ s))) ∧ w = w' := by
  have hs1 : (1 : Int) ≤ s := by omega
  have hs2 : (s : Int) ≤ 8 := by omega
  by_cases h8 : s = 8
  · subst h8
    have : n < 256 ^ 8 := hn.2
    go_enter Tryd.func82, Tryd.ntmps82
    go_wp2
    go_ret
    exact ⟨ret_bool (by simpa using this), rfl⟩
  · have h8' : (s : Int) < 8 := by omega
    have h9 : ((s : Int) == 8) = false := by simp; omega
    have hn1 := hn.1
    have hn2 := hn.2
    by_cases hf : n < 256 ^ s
    · have hq : (n / 2 ^ (8 * s) == 0) = true := by rw [pow256, Int.ediv_eq_zero_of_lt hn.1 hf]; rfl
      go_enter Tryd.func82, Tryd.ntmps82
      go_wp2
      go_ret
      exact ⟨ret_bool (by simpa using hf), rfl⟩
    · have hq : (n / 2 ^ (8 * s) == 0) = false := by have := shr_ne n s hn.1 hf; simpa using this
      go_enter Tryd.func82, Tryd.ntmps82
      go_wp2
      go_ret
      exact ⟨ret_bool (by simpa using hf), rfl⟩
set_option maxHeartbeats 2000000 in
theorem rappend_ok (A : Option Addr) (nl c lo hi : Nat) (l : List Int) (n : Int) (s : Nat) (w : World) (hnl : l.length = nl) (h : Bs w lo hi A l) (hh : hi ≤ w.heap.size) (hm : nl ≤ 140737488351232) (hn : 0 ≤ n ∧ n < 18446744073709551616) (hs1 : 1 ≤ s) (hs2 : s ≤ 8) (hf : n < 256 ^ s) :
    Calls Tryd.prog 50 #[.slice A nl c, .int .u64 n, .int .i64 s] w fun e w' => ∃ A' c', e = .returned (.tuple #[.slice A' (nl + s) c', .int .i64 0]) ∧ Ow w' w.heap.size A' c' (l ++ bytesB s n) ∧ w.heap.size ≤ w'.heap.size ∧ Below w.heap.size w w' := by
  subst hnl
  have hn1 := hn.1
  have hn2 := hn.2
  have hi1 : (1 : Int) ≤ s := by omega
  have hi2 : (s : Int) ≤ 8 := by omega
  have hO1 := Ow.lit w [] #[] rfl Byt.nil (by simp)
  have hB1 : Bs (w.alloc (.cells #[] 5)) lo hi A l := h.alloc hh _
  go_enter Tryd.func50, Tryd.ntmps50
  go_wp2_with (first | (go_at_call 82; ((with_reducible refine (fits_any n s w hn ⟨hs1, hs2⟩).mono ?_); rintro e w1 ⟨rfl, rfl⟩)) | (at_builtin; refine wpList_append_bs rfl (.tmp 20) (.tmp 21) rfl 0 0 l.length c (by rfl) (by rfl) rfl rfl hO1 hB1 (by omega) (by simp) ?_; intro A1 c1 w1 hO hb1 _))
  all_goals
    have hO2 : Ow w1 w.heap.size A1 c1 (l ++ (bytesB s n).take 0) := by simpa using hO
    have hb2 : Below w.heap.size w w1 := Below.trans ((Below.refl _ w).alloc (Nat.le_refl _) _) hb1
    clear hO hb1 hO1 hB1
    go_loopw [8, 9] (fun v i wr => ∃ k : Nat, k ≤ s ∧ ∃ A' c', v = .slice A' (l.length + k) c' ∧ i = .int .i64 ((s : Int) - 1 - k) ∧ Ow wr w.heap.size A' c' (l ++ (bytesB s n).take k) ∧ Below w.heap.size w wr) (fun v i _ => (intOf i + 1).toNat)
    case atStart => exact ⟨0, by omega, _, _, by simp, by simp, hO2, hb2⟩
    case round =>
      obtain ⟨k, hk, A', c', rfl, rfl, hR, hbr⟩ := hrel
      by_cases hlt : k < s
      · have hlen : (l ++ (bytesB s n).take k).length = l.length + k := by simp [bytesB_length]; omega
        have hv := bytesB_at s n k hlt
        rw [← pow256] at hv
        have hx := (bytesB_byt s n).at k
        have hO3 := hR.alloc (.cells #[.int .u8 (n / 2 ^ (8 * (s - 1 - k)) % 256)] 5)
        have hL := Ow.lit wr [atB (bytesB s n) k] #[.int .u8 (n / 2 ^ (8 * (s - 1 - k)) % 256)] (by simp [hv]) (Byt.nil.cons hx.1 hx.2) (by simp)
        have hsz := hbr.size
        have hT : l ++ (bytesB s n).take (k + 1) = (l ++ (bytesB s n).take k) ++ [atB (bytesB s n) k] := by rw [take_succ' _ k (by rw [bytesB_length]; exact hlt), List.append_assoc]
        go_wp2_with (at_builtin; refine wpList_append_bs rfl (.tmp 29) (.tmp 35) rfl (l.length + k) c' 1 1 (by rfl) (by rfl) hlen rfl hO3 hL.bs (by omega) (by simp; omega) ?_; intro A2 c2 w2 hO4 hb4 _)
        rw [← hT] at hO4
        exact ⟨⟨k + 1, by omega, A2, c2, rfl, by go_num, hO4, (hbr.alloc hsz _).trans hb4⟩, by simp [intOf]; omega⟩
      · obtain rfl : k = s := by omega
        have hsz := hbr.size
        rw [List.take_of_length_le (by rw [bytesB_length]; omega)] at hR
        go_wp2
        go_ret2
        exact ⟨A', c', rfl, hR, hsz, hbr⟩
end Go.Proofs.YtachhbbofemfdaaDoor
namespace Go.Proofs.YtachhbbofemfdaaDoor
open Go.RowKit
set_option linter.unusedSimpArgs false
set_option linter.unusedVariables false
set_option maxRecDepth 100000
theorem numB_app' (l : List Int) (x : Int) : numB (l ++ [x]) = stepB (numB l) x := by unfold numB; rw [List.foldl_append]; rfl
theorem numB_bytesB' (k : Nat) : ∀ n : Int, 0 ≤ n → n < 256 ^ k → n < 18446744073709551616 → numB (bytesB k n) = n := by
  induction k with
  | zero => intro n h0 h1 _; simp at h1; simp [bytesB, numB]; omega
  | succ k ih =>
    intro n h0 h1 h2
    have h3 : n / 256 < 256 ^ k := by rw [Int.pow_succ] at h1; omega
    rw [bytesB, numB_app', ih (n / 256) (by omega) h3 (by omega)]
    unfold stepB; omega
theorem numB_le_pow' {L : List Int} (h : Byt L) : numB L < 256 ^ L.length := by
  have key : ∀ k : Nat, k ≤ L.length → numB (L.take k) < 256 ^ k := fun k => by
    induction k with
    | zero => intro _; simp [numB]
    | succ k ih =>
      intro hk
      have h1 := ih (by omega)
      have hx := h.at k
      have h2 := (numB_range (L.take k)).1
      rw [numB_succ L k (by omega), Int.pow_succ]
      unfold stepB
      omega
  have := key L.length (Nat.le_refl _)
  rwa [List.take_length] at this
theorem bytes_numB' : ∀ (k : Nat) (l : List Int), Byt l → l.length = k → k ≤ 8 → bytesB k (numB l) = l := by
  intro k
  induction k with
  | zero => intro l _ h _; rw [List.eq_nil_of_length_eq_zero h]; rfl
  | succ k ih =>
    intro l hb hl h8
    obtain ⟨m, x, rfl⟩ : ∃ m x, l = m ++ [x] := ⟨l.dropLast, l.getLast (by intro h; rw [h] at hl; simp at hl), (List.dropLast_concat_getLast _).symm⟩
    have hm : m.length = k := by simpa using hl
    have hbm : Byt m := fun y hy => hb y (by simp [hy])
    have hx := hb x (by simp)
    have h1 := numB_le_pow' hbm
    have h0 := (numB_range m).1
    have h2 : (256 : Int) ^ m.length ≤ 256 ^ 7 := by
      rw [hm]
      have : (256 : Int) ^ 7 = 256 ^ k * 256 ^ (7 - k) := by rw [← Int.pow_add]; congr 1; omega
      have a : (0 : Int) < 256 ^ k := Int.pow_pos (by omega)
      have b : (0 : Int) < 256 ^ (7 - k) := Int.pow_pos (by omega)
      rw [this]
      have c : (256 : Int) ^ k * 1 ≤ 256 ^ k * 256 ^ (7 - k) := Int.mul_le_mul_of_nonneg_left (by omega) (by omega)
      omega
    have h3 : (256 : Int) ^ 7 = 72057594037927936 := by decide
    rw [numB_app', bytesB]
    have e : stepB (numB m) x = numB m * 256 + x := by unfold stepB; omega
    rw [e, show (numB m * 256 + x) / 256 = numB m by omega, show (numB m * 256 + x) % 256 = x by omega, ih m hbm hm (by omega)]
abbrev Flds := List (Int × List Int)
/-- the error of a field of this kind and so many bytes -/
def chkE (kd n : Int) : Int := if 0 ≤ kd ∧ kd ≤ 65535 then (if 12 ≤ n ∧ n ≤ 256 ∧ n % 4 = 0 then 0 else 7) else 3
/-- the first error of fields -/
def firE : Flds → Int
  | [] => 0
  | t :: r => if chkE t.1 t.2.length = 0 then firE r else chkE t.1 t.2.length
def apxE (L : Flds) : Int := if 16 < L.length then 6 else firE L
def fldB (t : Int × List Int) : List Int := bytesB 2 t.1 ++ bytesB 2 (4 + t.2.length) ++ t.2
def fldsB : Flds → List Int
  | [] => []
  | t :: r => fldB t ++ fldsB r
/-- the fields are all valid -/
def AllV (L : Flds) : Prop := ∀ t ∈ L, chkE t.1 t.2.length = 0 ∧ Byt t.2
def pkd (l : List Int) : Int := numB (l.take 2)
def psz (l : List Int) : Nat := (numB ((l.drop 2).take 2)).toNat
/-- Parse: fields so far, and the bytes that are left -/
def prs : Nat → Flds → List Int → Flds × List Int × Int
  | 0, acc, _ => (acc, [], 0)
  | f + 1, acc, l =>
    if l.length = 0 then (acc, [], 0)
    else if l.length = 12 then (acc, l, 0)
    else if l.length < 16 then ([], [], 5)
    else if psz l < 16 ∨ psz l % 4 ≠ 0 then ([], [], 7)
    else if l.length < psz l then ([], [], 5)
    else if acc.length = 16 ∨ 260 < psz l then ([], [], 6)
    else prs f (acc ++ [(pkd l, (l.take (psz l)).drop 4)]) (l.drop (psz l))
def prsL (l : List Int) : Flds := (prs l.length [] l).1
def prsA (l : List Int) : List Int := (prs l.length [] l).2.1
def prsE (l : List Int) : Int := (prs l.length [] l).2.2
theorem xchk_ok {kd n : Int} : chkE kd n = 0 ↔ (0 ≤ kd ∧ kd ≤ 65535) ∧ 12 ≤ n ∧ n ≤ 256 ∧ n % 4 = 0 := by
  unfold chkE
  split
  · split
    · omega
    · omega
  · omega
theorem chk_form {kd n : Int} (h1 : 0 ≤ kd ∧ kd ≤ 65535) (h2 : ¬(12 ≤ n ∧ n ≤ 256 ∧ n % 4 = 0)) : chkE kd n = 7 := by unfold chkE; rw [if_pos h1, if_neg h2]
theorem chk_range {kd n : Int} (h1 : ¬(0 ≤ kd ∧ kd ≤ 65535)) : chkE kd n = 3 := by unfold chkE; rw [if_neg h1]
theorem firE_ok : ∀ (L : Flds), (∀ j, j < L.length → chkE (kdL L j) (dtL L j).length = 0) → firE L = 0
  | [], _ => rfl
  | t :: r, h => by
    have h3 := h 0 (by simp)
    unfold firE
    rw [if_pos (show chkE t.1 t.2.length = 0 from h3)]
    exact firE_ok r fun j hj => h (j + 1) (by simpa using hj)
theorem firE_all : ∀ {L : Flds}, firE L = 0 → ∀ t ∈ L, chkE t.1 t.2.length = 0
  | [], _, _, h => by cases h
  | t :: r, h, x, hx => by
    unfold firE at h
    by_cases h0 : chkE t.1 t.2.length = 0
    · rw [if_pos h0] at h
      rcases List.mem_cons.1 hx with rfl | hx
      · exact h0
      · exact firE_all h x hx
    · rw [if_neg h0] at h
      exact absurd h h0
theorem firE_valid {L : Flds} (h : ∀ t ∈ L, chkE t.1 t.2.length = 0) : firE L = 0 := by
  induction L with
  | nil => rfl
  | cons t r ih =>
    unfold firE
    rw [if_pos (h t (by simp)), ih fun x hx => h x (by simp [hx])]
theorem kd_mem {L : Flds} {k : Nat} (h : k < L.length) : (kdL L k, dtL L k) ∈ L := by
  unfold kdL dtL
  rw [List.getD_eq_getElem?_getD, List.getElem?_eq_getElem h]
  exact List.getElem_mem h
theorem fldsB_app (L M : Flds) : fldsB (L ++ M) = fldsB L ++ fldsB M := by
  induction L with
  | nil => rfl
  | cons t r ih => simp [fldsB, ih]
theorem fldsB_snoc (L : Flds) (t : Int × List Int) : fldsB (L ++ [t]) = fldsB L ++ fldB t := by rw [fldsB_app]; simp [fldsB]
theorem fl_take {L : Flds} {k : Nat} (h : k < L.length) : L.take (k + 1) = L.take k ++ [(kdL L k, dtL L k)] := by
  rw [List.take_succ_eq_append_getElem h]
  unfold kdL dtL
  rw [List.getD_eq_getElem?_getD, List.getElem?_eq_getElem h]
  rfl
theorem fldsB_take {L : Flds} {k : Nat} (h : k < L.length) : fldsB (L.take (k + 1)) = fldsB (L.take k) ++ bytesB 2 (kdL L k) ++ bytesB 2 (4 + (dtL L k).length) ++ dtL L k := by
  rw [fl_take h, fldsB_snoc]
  unfold fldB
  simp
theorem fldB_length (t : Int × List Int) : (fldB t).length = 4 + t.2.length := by unfold fldB; simp [bytesB_length]; omega
theorem fldsB_le {L : Flds} {m : Nat} (h : ∀ t ∈ L, t.2.length ≤ m) : (fldsB L).length ≤ L.length * (4 + m) := by
  induction L with
  | nil => simp [fldsB]
  | cons t r ih =>
    have h1 := ih fun x hx => h x (by simp [hx])
    have h2 := h t (by simp)
    simp only [fldsB, List.length_append, fldB_length, List.length_cons, Nat.add_mul]
    omega
theorem psz_le (l : List Int) (hb : Byt l) : psz l ≤ 65535 := by
  have h := numB_le_pow' ((hb.drop 2).take 2)
  have h1 : ((l.drop 2).take 2).length ≤ 2 := List.length_take_le _ _
  have h2 : (256 : Int) ^ ((l.drop 2).take 2).length ≤ 65536 := by
    have h3 : ((l.drop 2).take 2).length = 0 ∨ ((l.drop 2).take 2).length = 1 ∨ ((l.drop 2).take 2).length = 2 := by omega
    rcases h3 with e | e | e <;> rw [e] <;> decide
  unfold psz
  omega
theorem pkd_rng (l : List Int) (hb : Byt l) : 0 ≤ pkd l ∧ pkd l ≤ 65535 := by
  have h := numB_le_pow' (hb.take 2)
  have h0 := (numB_range (l.take 2)).1
  have h1 : (l.take 2).length ≤ 2 := List.length_take_le _ _
  have h2 : (256 : Int) ^ (l.take 2).length ≤ 65536 := by
    have h3 : (l.take 2).length = 0 ∨ (l.take 2).length = 1 ∨ (l.take 2).length = 2 := by omega
    rcases h3 with e | e | e <;> rw [e] <;> decide
  unfold pkd
  omega
/-- the bytes of the field that was read -/
theorem fldB_read {l : List Int} (hb : Byt l) (h16 : 16 ≤ psz l) (hl : psz l ≤ l.length) : fldB (pkd l, (l.take (psz l)).drop 4) = l.take (psz l) := by
  obtain ⟨n, hn⟩ : ∃ n, psz l = n := ⟨_, rfl⟩
  rw [hn] at h16 hl ⊢
  have e1 : (l.take 2).length = 2 := by rw [List.length_take]; omega
  have e2 : ((l.drop 2).take 2).length = 2 := by rw [List.length_take, List.length_drop]; omega
  have hz : (4 : Int) + ((l.take n).drop 4).length = numB ((l.drop 2).take 2) := by
    have h1 := (numB_range ((l.drop 2).take 2)).1
    have h2 : (numB ((l.drop 2).take 2)).toNat = n := hn
    rw [List.length_drop, List.length_take]
    omega
  unfold fldB pkd
  simp only
  rw [hz, bytes_numB' 2 _ (hb.take 2) e1 (by omega), bytes_numB' 2 _ ((hb.drop 2).take 2) e2 (by omega)]
  have e3 : l.take 2 ++ (l.drop 2).take 2 = l.take 4 := by
    rw [show (4 : Nat) = 2 + 2 from rfl, List.take_add]
  rw [e3]
  have e4 : l.take 4 = (l.take n).take 4 := by rw [List.take_take, Nat.min_eq_left (by omega)]
  rw [e4, List.take_append_drop]
theorem prs_inv : ∀ (f : Nat) (acc : Flds) (l : List Int), AllV acc → acc.length ≤ 16 → l.length ≤ f → Byt l →
    ((prs f acc l).2.2 = 0 → fldsB (prs f acc l).1 ++ (prs f acc l).2.1 = fldsB acc ++ l ∧ AllV (prs f acc l).1 ∧ (prs f acc l).1.length ≤ 16 ∧ ((prs f acc l).2.1 = [] ∨ (prs f acc l).2.1.length = 12)) ∧
    ((prs f acc l).2.2 ≠ 0 → (prs f acc l).1 = [] ∧ (prs f acc l).2.1 = [] ∧ 0 < (prs f acc l).2.2)
  | 0, acc, l, ha, hc, hf, hb => by
    have : l = [] := List.eq_nil_of_length_eq_zero (by omega)
    subst this
    simp [prs, ha, hc]
  | f + 1, acc, l, ha, hc, hf, hb => by
    rw [prs]
    by_cases h0 : l.length = 0
    · have : l = [] := List.eq_nil_of_length_eq_zero h0
      subst this
      simp [ha, hc]
    rw [if_neg h0]
    by_cases h1 : l.length = 12
    · simp [h1, ha, hc]
    rw [if_neg h1]
    by_cases h2 : l.length < 16
    · simp [h2]
    rw [if_neg h2]
    by_cases h3 : psz l < 16 ∨ psz l % 4 ≠ 0
    · simp [h3]
    rw [if_neg h3]
    by_cases h4 : l.length < psz l
    · simp [h4]
    rw [if_neg h4]
    by_cases h5 : acc.length = 16 ∨ 260 < psz l
    · simp [h5]
    rw [if_neg h5]
    have hr := fldB_read hb (by omega) (by omega)
    have hk := pkd_rng l hb
    have hdl : ((l.take (psz l)).drop 4).length = psz l - 4 := by rw [List.length_drop, List.length_take]; omega
    have ha' : AllV (acc ++ [(pkd l, (l.take (psz l)).drop 4)]) := by
      intro t ht
      rcases List.mem_append.1 ht with ht | ht
      · exact ha t ht
      · rw [List.mem_singleton.1 ht]
        refine ⟨xchk_ok.2 ⟨hk, ?_⟩, (hb.take _).drop _⟩
        simp only
        rw [hdl]
        omega
    have h6 := prs_inv f (acc ++ [(pkd l, (l.take (psz l)).drop 4)]) (l.drop (psz l)) ha' (by simp; omega) (by rw [List.length_drop]; omega) (hb.drop _)
    refine ⟨fun h => ?_, h6.2⟩
    obtain ⟨g1, g2⟩ := h6.1 h
    refine ⟨?_, g2⟩
    rw [g1, fldsB_snoc, hr, List.append_assoc, List.take_append_drop]
/-- what was read is written as it was; an error returns nothing -/
theorem prs_back {l : List Int} (hb : Byt l) : (prsE l = 0 → fldsB (prsL l) ++ prsA l = l ∧ AllV (prsL l) ∧ (prsL l).length ≤ 16 ∧ (prsA l = [] ∨ (prsA l).length = 12)) ∧ (prsE l ≠ 0 → prsL l = [] ∧ prsA l = [] ∧ 0 < prsE l) := by
  have h := prs_inv l.length [] l (fun t ht => by cases ht) (by simp) (Nat.le_refl _) hb
  exact h
/-- fields that were written are read back -/
theorem prs_flds : ∀ (L : Flds) (f : Nat) (acc : Flds) (a : List Int), AllV L → acc.length + L.length ≤ 16 → (a = [] ∨ a.length = 12) → (fldsB L ++ a).length ≤ f → prs f acc (fldsB L ++ a) = (acc ++ L, a, 0)
  | [], f, acc, a, _, hc, ha, hf => by
    simp only [fldsB, List.nil_append, List.append_nil] at hf ⊢
    cases f with
    | zero => rw [List.eq_nil_of_length_eq_zero (by omega : a.length = 0)]; rfl
    | succ f =>
      rw [prs]
      rcases ha with rfl | ha
      · simp
      · rw [if_neg (by omega), if_pos ha]
  | t :: r, f, acc, a, hv, hc, ha, hf => by
    obtain ⟨hvt, hbt⟩ := hv t (by simp)
    obtain ⟨hk, h12, h256, h4⟩ := xchk_ok.1 hvt
    have hlen : (fldsB (t :: r) ++ a).length = 4 + t.2.length + (fldsB r ++ a).length := by
      simp only [fldsB, List.length_append, fldB_length]; omega
    have hl : ∃ q, fldsB (t :: r) ++ a = bytesB 2 t.1 ++ (bytesB 2 (4 + t.2.length) ++ (t.2 ++ q)) ∧ q = fldsB r ++ a := ⟨_, by simp [fldsB, fldB], rfl⟩
    obtain ⟨q, hq, hqe⟩ := hl
    have hp2 : (bytesB 2 t.1).length = 2 := bytesB_length _ _
    have hp2' : (bytesB 2 (4 + (t.2.length : Int))).length = 2 := bytesB_length _ _
    have e2 : (256 : Int) ^ 2 = 65536 := by decide
    have hkd : pkd (fldsB (t :: r) ++ a) = t.1 := by
      unfold pkd
      rw [hq, List.take_append_of_le_length (by omega), List.take_of_length_le (by omega)]
      exact numB_bytesB' 2 _ (by omega) (by omega) (by omega)
    have hsz : psz (fldsB (t :: r) ++ a) = 4 + t.2.length := by
      unfold psz
      rw [hq, List.drop_left' hp2, List.take_append_of_le_length (by omega), List.take_of_length_le (by omega), numB_bytesB' 2 _ (by omega) (by omega) (by omega)]
      omega
    cases f with
    | zero => omega
    | succ f =>
      rw [prs, hkd, hsz, if_neg (by omega), if_neg (by omega), if_neg (by omega), if_neg (by omega), if_neg (by omega), if_neg (by simp only [List.length_cons] at hc; omega)]
      have hd : (fldsB (t :: r) ++ a).drop (4 + t.2.length) = fldsB r ++ a := by
        rw [show fldsB (t :: r) ++ a = fldB t ++ (fldsB r ++ a) by simp [fldsB]]
        exact List.drop_left' (fldB_length t)
      have ht : ((fldsB (t :: r) ++ a).take (4 + t.2.length)).drop 4 = t.2 := by
        rw [show fldsB (t :: r) ++ a = fldB t ++ (fldsB r ++ a) by simp [fldsB], List.take_left' (fldB_length t)]
        unfold fldB
        exact List.drop_left' (by simp [bytesB_length])
      rw [hd, ht, show (t.1, t.2) = t from rfl, prs_flds r f (acc ++ [t]) a (fun x hx => hv x (by simp [hx])) (by simp only [List.length_append, List.length_cons, List.length_nil] at hc ⊢; omega) ha (by omega)]
      simp
theorem prs_of {L : Flds} {a : List Int} (hv : AllV L) (hc : L.length ≤ 16) (ha : a = [] ∨ a.length = 12) : prsL (fldsB L ++ a) = L ∧ prsA (fldsB L ++ a) = a ∧ prsE (fldsB L ++ a) = 0 := by
  have h := prs_flds L (fldsB L ++ a).length [] a hv (by simpa using hc) ha (Nat.le_refl _)
  unfold prsL prsA prsE
  rw [h]
  simp
end Go.Proofs.YtachhbbofemfdaaDoor
namespace Go.Proofs.YtachhbbofemfdaaDoor
open Go.RowKit
set_option linter.unusedSimpArgs false
set_option linter.unusedVariables false
set_option maxRecDepth 100000
theorem own_form {w : World} {lo size n : Nat} {E : TypeId} {v : Value} {xs : List Value} (h : w.ownsRow lo E size v n xs) (hn : 0 < n) : ∃ g cap, v = .slice (some ⟨g, 0, none⟩) n cap ∧ lo ≤ g ∧ g < w.heap.size ∧ n ≤ cap ∧ cap ≤ 9223372036854775807 ∧ ∀ k, k < n * size → w.cell? ⟨g, k, none⟩ = xs[k]? := by
  rcases h.2 with ⟨_, h0⟩ | ⟨g, cap, cur, rfl, hlo, hg, hnc, hcm, _⟩
  · omega
  · exact ⟨g, cap, rfl, hlo, (Array.getElem?_eq_some_iff.1 hg).1, hnc, by unfold maxLen at hcm; exact hcm, fun k hk => h.cellAt k hk⟩
section
variable {ops : Array Oper} {rest : List Oper} {o : Oper} {a : Act} {w : World} {Q : Exit → Act → World → Prop}
theorem wpl_append (hw : Region.wanted o (yielded ops a.tmps) = true) (d s : Operand) (T : TypeId) (ho : o.op = .call { callee := .builtin .append, args := #[d, s], argTypes := #[T, T] }) (E : TypeId) (z : Value) (size bytes : Nat)
    (hT : Tryd.prog.underlying T = some (.slice E)) (hI : (Tryd.prog.info? E).map (fun i => (i.zero, i.size, i.bytes)) = some (some z, size, bytes)) (hz : z.cells.size = size) (h0 : 0 < size) (v : Value) (n : Nat) (xs : List Value) (lo : Nat) (hd : a.eval d = v) (hown : w.ownsRow lo E size v n xs)
    (ad : Addr) (m c' : Nat) (hs : a.eval s = .slice (some ad) m c') (news : List Value) (hn : news.length = m * size) (hc : ∀ j u, news[j]? = some u → w.cell? (ad.add j) = some u) (h1 : ∀ u ∈ news, u.oneCell' = true)
    (hsz : n + m ≤ 1000000000) (hby : (n + m) * bytes ≤ 140737488355328) (hlo : lo ≤ w.heap.size)
    (h : ∀ v' w', w'.ownsRow lo E size v' (n + m) (xs ++ news) → Below lo w w' → w.grownBy w' v.ownBlock → wpList Tryd.prog ops Q rest (a.put o.dst v') w') : wpList Tryd.prog ops Q (o :: rest) a w := by
  obtain ⟨i, hi, hz', h1', h2'⟩ := info_parts hI
  obtain ⟨v', w', hrun, r1, r2, _, _⟩ := run_append_own_at (P := Tryd.prog) w lo T o.type E i z size bytes hT hi hz' h1' h2' hz h0 v n xs hown ad m c' news hn hc h1 (by unfold maxLen; omega) hby hlo
  refine wpl_want hw fun K hK => ?_
  unfold Oper.wp execOp
  simp only [ho, resolve, invoke, builtin, Sem.run_bind, Sem.run_pure, Result.andThen_ok, List.map_toArray, List.map_cons, List.map_nil, hd, hs, hrun]
  exact hK _ _ (h v' w' r1 (below_of_grown r2 hlo fun k hk => (hown.lt k hk).1) r2)
end
end Go.Proofs.YtachhbbofemfdaaDoor
namespace Go.Proofs.YtachhbbofemfdaaDoor
open Go.RowKit
set_option linter.unusedSimpArgs false
set_option linter.unusedVariables false
set_option maxRecDepth 100000
def eqB (l m : List Int) : Bool := decide (l = m)
theorem eqB_self (l : List Int) : eqB l l = true := by simp [eqB]
set_option maxHeartbeats 2000000 in
theorem clone_any (A : Option Addr) (n c lo hi : Nat) (l : List Int) (w : World) (hn : l.length = n) (h : Bs w lo hi A l) (hh : hi ≤ w.heap.size) (hm : n ≤ 140737488355328) (hA : A = none → n = 0 ∧ c = 0) :
    Calls Tryd.prog 60 #[.slice A n c] w fun e w' => ∃ A' c', e = .returned (.slice A' n c') ∧ Ow w' w.heap.size A' c' l ∧ w.heap.size ≤ w'.heap.size ∧ Below w.heap.size w w' := by
  subst hn
  rcases A with _ | a
  · obtain ⟨h0, rfl⟩ := hA rfl
    obtain rfl : l = [] := List.eq_nil_of_length_eq_zero h0
    have hnil := fun (W : World) => Go.Lib.run_eql_slice_nil (P := Tryd.prog) W 23 5 none 0 0 0 0 Tryd.underlying23
    go_enter Tryd.func60, Tryd.ntmps60
    go_wp2
    go_ret
    exact ⟨none, 0, rfl, ⟨Byt.nil, World.ownsRow_nil _ _ _ _⟩, Nat.le_refl _, Below.refl _ _⟩
  · have hO1 := Ow.lit w [] #[] rfl Byt.nil (by simp)
    have hB1 := h.alloc hh (.cells #[] 5)
    have hnil := fun (W : World) => Go.Lib.run_eql_slice_nil (P := Tryd.prog) W 23 5 (some a) l.length c 0 0 Tryd.underlying23
    go_enter Tryd.func60, Tryd.ntmps60
    go_wp2_with (at_builtin; refine wpList_append_bs rfl (.tmp 5) (.tmp 6) rfl 0 0 l.length c (by rfl) (by rfl) rfl rfl hO1 hB1 (by omega) (by simp) ?_; intro A1 c1 w1 hO hb1 _)
    have hb2 : Below w.heap.size w w1 := Below.trans ((Below.refl _ w).alloc (Nat.le_refl _) _) hb1
    go_ret
    exact ⟨A1, c1, by simp, by simpa using hO, hb2.size, hb2⟩
end Go.Proofs.YtachhbbofemfdaaDoor
namespace Go.Proofs.YtachhbbofemfdaaDoor
open Go.RowKit
set_option linter.unusedSimpArgs false
set_option linter.unusedVariables false
set_option maxRecDepth 100000
theorem ow_empty' {y : World} {lo g : Nat} (h : Blk y g 5 []) (hlo : lo ≤ g) : Ow y lo (some ⟨g, 0, none⟩) 0 [] :=
  ⟨Byt.nil, by simp, .inr ⟨g, 0, #[], rfl, hlo, h, Nat.zero_le _, by unfold maxLen; omega, by simp, by simp⟩⟩
abbrev exC (k : Int) (A : Option Addr) (n c : Nat) : List Value := [.int .i64 k, .slice A n c]
abbrev fxV (k : Int) (A : Option Addr) (n c : Nat) : Value := .agg #[.int .i64 k, .slice A n c]
theorem Xf.open' {w : World} {hi b o : Nat} {kd : Int} {dt : List Int} (h : Xf w hi b o kd dt) : ∃ A c, w.rangeAt b o [.int .i64 kd, .slice A dt.length c] ∧ Bs w 0 hi A dt ∧ dt.length ≤ c ∧ c ≤ 9223372036854775807 ∧ (A = none → dt.length = 0 ∧ c = 0) := by
  obtain ⟨A, c, c0, c1, hB, h3, h4, h5⟩ := h
  refine ⟨A, c, fun j v hv => ?_, hB, h3, h4, h5⟩
  match j with
  | 0 => simp at hv; rw [← hv]; exact c0
  | 1 => simp at hv; rw [← hv]; exact c1
  | j + 2 => simp at hv
open Go.RowKit
set_option maxHeartbeats 4000000 in
theorem chk_any (kd : Int) (A : Option Addr) (n c : Nat) (w : World) (hn : n ≤ 9223372036854775807) :
    Calls Tryd.prog 40 #[fxV kd A n c] w fun e w' => e = .returned (.int .i64 (chkE kd n)) ∧ Below w.heap.size w w' := by
  have n0 : (0 : Int) ≤ n := by omega
  by_cases h1 : kd < 0
  · have HE : Hid (chkE kd n = 3) := chk_range (by omega)
    have d1 : decide (kd < 0) = true := decide_eq_true h1
    clear h1
    go_enter Tryd.func40, Tryd.ntmps40
    go_wp2_with (first | ((refine wpl_box (by rfl) 62 _ (by rfl) _ (exC kd A n c) (by rfl) rfl ?_; intro w1 J1 s1 b1)) | (refine wpl_loadf (by rfl) 3 _ (by rfl) w.heap.size 0 (by rfl) _ _ J1 _ rfl _ Tryd.underlying3 rfl ?_) | (refine wpl_loadf (by rfl) 23 _ (by rfl) w.heap.size 1 (by rfl) _ _ J1 _ rfl _ Tryd.underlying23 rfl ?_))
    go_ret
    exact ⟨HE.out ▸ rfl, b1⟩
  · by_cases h2 : 65535 < kd
    · have HE : Hid (chkE kd n = 3) := chk_range (by omega)
      have d1 : decide (kd < 0) = false := decide_eq_false h1
      have d2 : decide (65535 < kd) = true := decide_eq_true h2
      clear h1 h2
      go_enter Tryd.func40, Tryd.ntmps40
      go_wp2_with (first | ((refine wpl_box (by rfl) 62 _ (by rfl) _ (exC kd A n c) (by rfl) rfl ?_; intro w1 J1 s1 b1)) | (refine wpl_loadf (by rfl) 3 _ (by rfl) w.heap.size 0 (by rfl) _ _ J1 _ rfl _ Tryd.underlying3 rfl ?_) | (refine wpl_loadf (by rfl) 23 _ (by rfl) w.heap.size 1 (by rfl) _ _ J1 _ rfl _ Tryd.underlying23 rfl ?_))
      go_ret
      exact ⟨HE.out ▸ rfl, b1⟩
    · have d1 : decide (kd < 0) = false := decide_eq_false h1
      have d2 : decide (65535 < kd) = false := decide_eq_false h2
      by_cases h3 : (n : Int) < 12
      · have HE : Hid (chkE kd n = 7) := chk_form (by omega) (by omega)
        have d3 : decide ((n : Int) < 12) = true := decide_eq_true h3
        clear h1 h2 h3
        go_enter Tryd.func40, Tryd.ntmps40
        go_wp2_with (first | ((refine wpl_box (by rfl) 62 _ (by rfl) _ (exC kd A n c) (by rfl) rfl ?_; intro w1 J1 s1 b1)) | (refine wpl_loadf (by rfl) 3 _ (by rfl) w.heap.size 0 (by rfl) _ _ J1 _ rfl _ Tryd.underlying3 rfl ?_) | (refine wpl_loadf (by rfl) 23 _ (by rfl) w.heap.size 1 (by rfl) _ _ J1 _ rfl _ Tryd.underlying23 rfl ?_))
        go_ret
        exact ⟨HE.out ▸ rfl, b1⟩
      · have d3 : decide ((n : Int) < 12) = false := decide_eq_false h3
        by_cases h4 : (256 : Int) < n
        · have HE : Hid (chkE kd n = 7) := chk_form (by omega) (by omega)
          have d4 : decide ((256 : Int) < n) = true := decide_eq_true h4
          clear h1 h2 h3 h4
          go_enter Tryd.func40, Tryd.ntmps40
          go_wp2_with (first | ((refine wpl_box (by rfl) 62 _ (by rfl) _ (exC kd A n c) (by rfl) rfl ?_; intro w1 J1 s1 b1)) | (refine wpl_loadf (by rfl) 3 _ (by rfl) w.heap.size 0 (by rfl) _ _ J1 _ rfl _ Tryd.underlying3 rfl ?_) | (refine wpl_loadf (by rfl) 23 _ (by rfl) w.heap.size 1 (by rfl) _ _ J1 _ rfl _ Tryd.underlying23 rfl ?_))
          go_ret
          exact ⟨HE.out ▸ rfl, b1⟩
        · have d4 : decide ((256 : Int) < n) = false := decide_eq_false h4
          by_cases h5 : (n : Int) % 4 = 0
          · have HE : Hid (chkE kd n = 0) := xchk_ok.2 (by omega)
            have d5 : ((n : Int) % 4 != 0) = false := by simpa using h5
            clear h1 h2 h3 h4 h5
            go_enter Tryd.func40, Tryd.ntmps40
            go_wp2_with (first | ((refine wpl_box (by rfl) 62 _ (by rfl) _ (exC kd A n c) (by rfl) rfl ?_; intro w1 J1 s1 b1)) | (refine wpl_loadf (by rfl) 3 _ (by rfl) w.heap.size 0 (by rfl) _ _ J1 _ rfl _ Tryd.underlying3 rfl ?_) | (refine wpl_loadf (by rfl) 23 _ (by rfl) w.heap.size 1 (by rfl) _ _ J1 _ rfl _ Tryd.underlying23 rfl ?_))
            go_ret
            exact ⟨HE.out ▸ rfl, b1⟩
          · have HE : Hid (chkE kd n = 7) := chk_form (by omega) (by omega)
            have d5 : ((n : Int) % 4 != 0) = true := by simpa using h5
            clear h1 h2 h3 h4 h5
            go_enter Tryd.func40, Tryd.ntmps40
            go_wp2_with (first | ((refine wpl_box (by rfl) 62 _ (by rfl) _ (exC kd A n c) (by rfl) rfl ?_; intro w1 J1 s1 b1)) | (refine wpl_loadf (by rfl) 3 _ (by rfl) w.heap.size 0 (by rfl) _ _ J1 _ rfl _ Tryd.underlying3 rfl ?_) | (refine wpl_loadf (by rfl) 23 _ (by rfl) w.heap.size 1 (by rfl) _ _ J1 _ rfl _ Tryd.underlying23 rfl ?_))
            go_ret
            exact ⟨HE.out ▸ rfl, b1⟩
open Go.RowKit
set_option maxHeartbeats 4000000 in
theorem rchk_any (kd : Int) (A : Option Addr) (n c : Nat) (w : World) (hn : n ≤ 9223372036854775807) :
    Calls Tryd.prog 43 #[fxV kd A n c] w fun e w' => e = .returned (.int .i64 (chkE kd n)) ∧ Below w.heap.size w w' := by
  have n0 : (0 : Int) ≤ n := by omega
  by_cases h1 : kd < 0
  · have HE : Hid (chkE kd n = 3) := chk_range (by omega)
    have d1 : decide (kd < 0) = true := decide_eq_true h1
    clear h1
    go_enter Tryd.func43, Tryd.ntmps43
    go_wp2_with (first | ((refine wpl_box (by rfl) 62 _ (by rfl) _ (exC kd A n c) (by rfl) rfl ?_; intro w1 J1 s1 b1)) | (refine wpl_loadf (by rfl) 3 _ (by rfl) w.heap.size 0 (by rfl) _ _ J1 _ rfl _ Tryd.underlying3 rfl ?_) | (refine wpl_loadf (by rfl) 23 _ (by rfl) w.heap.size 1 (by rfl) _ _ J1 _ rfl _ Tryd.underlying23 rfl ?_))
    go_ret
    exact ⟨HE.out ▸ rfl, b1⟩
  · by_cases h2 : 65535 < kd
    · have HE : Hid (chkE kd n = 3) := chk_range (by omega)
      have d1 : decide (kd < 0) = false := decide_eq_false h1
      have d2 : decide (65535 < kd) = true := decide_eq_true h2
      clear h1 h2
      go_enter Tryd.func43, Tryd.ntmps43
      go_wp2_with (first | ((refine wpl_box (by rfl) 62 _ (by rfl) _ (exC kd A n c) (by rfl) rfl ?_; intro w1 J1 s1 b1)) | (refine wpl_loadf (by rfl) 3 _ (by rfl) w.heap.size 0 (by rfl) _ _ J1 _ rfl _ Tryd.underlying3 rfl ?_) | (refine wpl_loadf (by rfl) 23 _ (by rfl) w.heap.size 1 (by rfl) _ _ J1 _ rfl _ Tryd.underlying23 rfl ?_))
      go_ret
      exact ⟨HE.out ▸ rfl, b1⟩
    · have d1 : decide (kd < 0) = false := decide_eq_false h1
      have d2 : decide (65535 < kd) = false := decide_eq_false h2
      by_cases h3 : (n : Int) < 12
      · have HE : Hid (chkE kd n = 7) := chk_form (by omega) (by omega)
        have d3 : decide ((n : Int) < 12) = true := decide_eq_true h3
        clear h1 h2 h3
        go_enter Tryd.func43, Tryd.ntmps43
        go_wp2_with (first | ((refine wpl_box (by rfl) 62 _ (by rfl) _ (exC kd A n c) (by rfl) rfl ?_; intro w1 J1 s1 b1)) | (refine wpl_loadf (by rfl) 3 _ (by rfl) w.heap.size 0 (by rfl) _ _ J1 _ rfl _ Tryd.underlying3 rfl ?_) | (refine wpl_loadf (by rfl) 23 _ (by rfl) w.heap.size 1 (by rfl) _ _ J1 _ rfl _ Tryd.underlying23 rfl ?_))
        go_ret
        exact ⟨HE.out ▸ rfl, b1⟩
      · have d3 : decide ((n : Int) < 12) = false := decide_eq_false h3
        by_cases h4 : (256 : Int) < n
        · have HE : Hid (chkE kd n = 7) := chk_form (by omega) (by omega)
          have d4 : decide ((256 : Int) < n) = true := decide_eq_true h4
          clear h1 h2 h3 h4
          go_enter Tryd.func43, Tryd.ntmps43
          go_wp2_with (first | ((refine wpl_box (by rfl) 62 _ (by rfl) _ (exC kd A n c) (by rfl) rfl ?_; intro w1 J1 s1 b1)) | (refine wpl_loadf (by rfl) 3 _ (by rfl) w.heap.size 0 (by rfl) _ _ J1 _ rfl _ Tryd.underlying3 rfl ?_) | (refine wpl_loadf (by rfl) 23 _ (by rfl) w.heap.size 1 (by rfl) _ _ J1 _ rfl _ Tryd.underlying23 rfl ?_))
          go_ret
          exact ⟨HE.out ▸ rfl, b1⟩
        · have d4 : decide ((256 : Int) < n) = false := decide_eq_false h4
          by_cases h5 : (n : Int) % 4 = 0
          · have HE : Hid (chkE kd n = 0) := xchk_ok.2 (by omega)
            have d5 : ((n : Int) % 4 != 0) = false := by simpa using h5
            clear h1 h2 h3 h4 h5
            go_enter Tryd.func43, Tryd.ntmps43
            go_wp2_with (first | ((refine wpl_box (by rfl) 62 _ (by rfl) _ (exC kd A n c) (by rfl) rfl ?_; intro w1 J1 s1 b1)) | (refine wpl_loadf (by rfl) 3 _ (by rfl) w.heap.size 0 (by rfl) _ _ J1 _ rfl _ Tryd.underlying3 rfl ?_) | (refine wpl_loadf (by rfl) 23 _ (by rfl) w.heap.size 1 (by rfl) _ _ J1 _ rfl _ Tryd.underlying23 rfl ?_))
            go_ret
            exact ⟨HE.out ▸ rfl, b1⟩
          · have HE : Hid (chkE kd n = 7) := chk_form (by omega) (by omega)
            have d5 : ((n : Int) % 4 != 0) = true := by simpa using h5
            clear h1 h2 h3 h4 h5
            go_enter Tryd.func43, Tryd.ntmps43
            go_wp2_with (first | ((refine wpl_box (by rfl) 62 _ (by rfl) _ (exC kd A n c) (by rfl) rfl ?_; intro w1 J1 s1 b1)) | (refine wpl_loadf (by rfl) 3 _ (by rfl) w.heap.size 0 (by rfl) _ _ J1 _ rfl _ Tryd.underlying3 rfl ?_) | (refine wpl_loadf (by rfl) 23 _ (by rfl) w.heap.size 1 (by rfl) _ _ J1 _ rfl _ Tryd.underlying23 rfl ?_))
            go_ret
            exact ⟨HE.out ▸ rfl, b1⟩
open Go.RowKit
theorem append_2 (A : Option Addr) (nl c lo hi : Nat) (l : List Int) (n : Int) (w : World) (hnl : l.length = nl) (h : Bs w lo hi A l) (hh : hi ≤ w.heap.size) (hm : nl ≤ 140737488351232) (h0 : 0 ≤ n) (hf : n < 65536) :
    Calls Tryd.prog 45 #[.slice A nl c, .int .u64 n, .int .i64 2] w fun e w' => ∃ A' c', e = .returned (.tuple #[.slice A' (nl + 2) c', .int .i64 0]) ∧ Ow w' w.heap.size A' c' (l ++ bytesB 2 n) ∧ w.heap.size ≤ w'.heap.size ∧ Below w.heap.size w w' :=
  (append_ok A nl c lo hi l n 2 w hnl h hh hm (by omega) (by omega) (by omega) (by simpa using hf)).mono fun e w' ⟨h1, h2, h3, h4⟩ => ⟨_, _, h1, h2, by omega, h4⟩
theorem rappend_2 (A : Option Addr) (nl c lo hi : Nat) (l : List Int) (n : Int) (w : World) (hnl : l.length = nl) (h : Bs w lo hi A l) (hh : hi ≤ w.heap.size) (hm : nl ≤ 140737488351232) (h0 : 0 ≤ n) (hf : n < 65536) :
    Calls Tryd.prog 50 #[.slice A nl c, .int .u64 n, .int .i64 2] w fun e w' => ∃ A' c', e = .returned (.tuple #[.slice A' (nl + 2) c', .int .i64 0]) ∧ Ow w' w.heap.size A' c' (l ++ bytesB 2 n) ∧ w.heap.size ≤ w'.heap.size ∧ Below w.heap.size w w' :=
  rappend_ok A nl c lo hi l n 2 w hnl h hh hm (by omega) (by omega) (by omega) (by simpa using hf)
/-- what has been written so far -/
def OutR (w0 wr : World) (lk : List Int) (v : Value) : Prop := ∃ A' c' N, v = .slice A' N c' ∧ lk.length = N ∧ Ow wr w0.heap.size A' c' lk
theorem apx_parts {L : Flds} (h : apxE L = 0) : L.length ≤ 16 ∧ ∀ k, k < L.length → chkE (kdL L k) (dtL L k).length = 0 := by
  unfold apxE at h
  split at h
  · omega
  · exact ⟨by omega, fun k hk => firE_all h _ (kd_mem hk)⟩
theorem sum_le {L : Flds} (h : ∀ k, k < L.length → chkE (kdL L k) (dtL L k).length = 0) (hl : L.length ≤ 16) (j : Nat) : (fldsB (L.take j)).length ≤ 4160 := by
  have h1 : ∀ t ∈ L.take j, t.2.length ≤ 256 := fun t ht => by
    have ht := List.mem_of_mem_take ht
    obtain ⟨i, hi, rfl⟩ := List.mem_iff_getElem.1 ht
    have h2 := h i hi
    unfold kdL dtL at h2
    rw [List.getD_eq_getElem?_getD, List.getElem?_eq_getElem hi] at h2
    have := xchk_ok.1 h2
    simp only [Option.getD_some] at this
    omega
  have h2 := fldsB_le h1
  have h3 : (L.take j).length ≤ 16 := by rw [List.length_take]; omega
  have h4 : (L.take j).length * (4 + 256) ≤ 16 * 260 := Nat.mul_le_mul_right 260 h3
  omega
set_option maxHeartbeats 8000000 in
theorem xappend_ok (A : Option Addr) (n c lo hi : Nat) (l : List Int) (B : Option Addr) (m d : Nat) (L : Flds) (w : World) (hn : l.length = n) (h : Bs w lo hi A l) (hh : hi ≤ w.heap.size) (hA : A = none → n = 0 ∧ c = 0) (hn2 : n ≤ 1000000) (hm : L.length = m) (hX : Xs w w.heap.size B L) (hmd : m ≤ d) (hd : d ≤ 9223372036854775807) (he : apxE L = 0) :
    Calls Tryd.prog 72 #[.slice A n c, .slice B m d] w fun e w' => ∃ A' c' N, e = .returned (.tuple #[.slice A' N c', .int .i64 0]) ∧ (l ++ fldsB L).length = N ∧ Ow w' w.heap.size A' c' (l ++ fldsB L) ∧ Below w.heap.size w w' := by
  obtain ⟨h16, hall⟩ := apx_parts he
  have hsum := fun j => sum_le hall h16 j
  rw [hm] at h16 hall
  have Hall := Lib.hid hall
  have Hsum := Lib.hid hsum
  clear he hall hsum
  have h16' : (m : Int) ≤ 16 := by omega
  go_enter Tryd.func72, Tryd.ntmps72
  go_wp2
  go_loopw [17] (fun i wr => ∃ k : Nat, k ≤ m ∧ i = .int .i64 k ∧ Below w.heap.size w wr) (fun i _ => m - (intOf i).toNat)
  case atStart => exact ⟨0, by omega, rfl, Below.refl _ _⟩
  case round =>
    obtain ⟨k, hk, rfl, hB⟩ := hrel
    by_cases hlt : k < m
    · skip
      obtain ⟨b, o, rfl, hbw, hx⟩ := (hX.below hB (Nat.le_refl _)) (by omega)
      obtain ⟨Ak, ck, hrg, hBk, hlc, hcm, hno⟩ := (hx k (by omega)).open'
      have hi0 : (0 : Int) ≤ k := by omega
      have hi1 : (k : Int) < m := by omega
      obtain ⟨K, hK⟩ : ∃ K, K = kdL L k := ⟨_, rfl⟩
      obtain ⟨D, hD⟩ : ∃ D, D = (dtL L k).length := ⟨_, rfl⟩
      rw [← hK, ← hD] at hrg
      rw [← hD] at hlc hno
      have HK := Lib.hid hK
      have HD := Lib.hid hD
      clear hx hK hD
      have hc0 : (chkE K D != 0) = false := by
        have := Hall.out k hlt
        rw [HK.out, HD.out]; simpa using this
      clear Hall Hsum
      go_wp2_with (first
        | (refine wpl_loadr (by rfl) 62 _ (by rfl) b (o + k * 2) (by rfl) _ hrg _ Tryd.underlying62 rfl _ sizeExt (by rfl) ?_)
        | (refine wpl_alloc (by rfl) 62 (by rfl) (.agg (exC 0 none 0 0).toArray) (exC 0 none 0 0) zeroExt rfl ?_; intro wa Ja sa ba)
        | (refine wpl_store (by rfl) 62 _ _ (by rfl) wr.heap.size (by rfl) _ (by rfl) (exC K Ak D ck) rfl 62 _ Ja (by rfl) _ sizeExt (by rfl) (by simp [Value.oneCell']) ?_; intro wb Jb sb gb)
        | (refine wpl_load (by rfl) 62 _ (by rfl) wr.heap.size (by rfl) 62 _ Jb _ Tryd.underlying62 rfl _ sizeExt (by rfl) ?_) | (go_at_call 40; ((with_reducible refine (chk_any _ _ _ _ _ (by omega)).mono ?_); rintro e wc ⟨rfl, bc⟩)))
      exact ⟨⟨k + 1, by omega, by go_num, ((hB.trans (ba.mono hB.size)).trans (gb.below (by have := hB.size; omega) hB.size)).trans (bc.mono (by have := hB.size; omega))⟩, by simp [intOf]; omega⟩
    · obtain rfl : m = k := by omega
      have hE := clone_any A n c lo hi l wr hn (h.below (hB.mono (by omega)) (Nat.le_refl _)) (by have := hB.size; omega) (by omega) hA
      go_wp2_with fail
      with_reducible refine hE.mono ?_
      rintro e w1 ⟨A1, c1, rfl, O1, z1, b1⟩
      have B1 := hB.trans (b1.mono hB.size)
      have O1' := O1.wide hB.size
      clear hE O1 b1
      go_wp2
      go_loopw [9, 31] (fun v i wr => ∃ k : Nat, k ≤ m ∧ i = .int .i64 k ∧ OutR w wr (l ++ fldsB (L.take k)) v ∧ Below w.heap.size w wr) (fun _ i _ => m - (intOf i).toNat)
      case atStart => exact ⟨0, by omega, rfl, ⟨A1, c1, n, rfl, by simpa [fldsB] using hn, by simpa [fldsB] using O1'⟩, B1⟩
      case round =>
        rename_i wq
        obtain ⟨k, hk, rfl, ⟨A3, c3, N, rfl, hN, O3⟩, hB⟩ := hrel
        clear B1 O1' z1
        by_cases hlt : k < m
        · have hnext := fldsB_take (L := L) (k := k) (by omega)
          have hsz := Hsum.out (k + 1)
          have hsz0 := Hsum.out k
          have hck := Hall.out k hlt
          have hN2 : N ≤ 1004160 := by rw [← hN, List.length_append]; omega
          generalize hlk : l ++ fldsB (L.take k) = lk at hN O3
          have hnx : l ++ fldsB (L.take (k + 1)) = lk ++ bytesB 2 (kdL L k) ++ bytesB 2 (4 + (dtL L k).length) ++ dtL L k := by rw [hnext, ← hlk]; simp
          obtain ⟨b, o, rfl, hbw, hx⟩ := (hX.below hB (Nat.le_refl _)) (by omega)
          obtain ⟨Ak, ck, hrg, hBk, hlc, hcm, hno⟩ := (hx k (by omega)).open'
          have hi0 : (0 : Int) ≤ k := by omega
          have hi1 : (k : Int) < m := by omega
          obtain ⟨K, hK⟩ : ∃ K, K = kdL L k := ⟨_, rfl⟩
          obtain ⟨D, hD⟩ : ∃ D, D = (dtL L k).length := ⟨_, rfl⟩
          rw [← hK, ← hD] at hrg
          rw [← hD] at hlc hno
          have HK := Lib.hid hK
          have HD := Lib.hid hD
          clear hx hK hD
          rw [← HK.out, ← HD.out] at hnx hck
          obtain ⟨⟨hK0, hK1⟩, hD12, hD256, _⟩ := xchk_ok.1 hck
          have HN := Lib.hid hnx
          clear hnx hnext hsz hsz0 hck hlk Hall Hsum
          go_wp2_with (first
            | (refine wpl_loadr (by rfl) 62 _ (by rfl) b (o + k * 2) (by rfl) _ hrg _ Tryd.underlying62 rfl _ sizeExt (by rfl) ?_)
            | (refine wpl_alloc (by rfl) 62 (by rfl) (.agg (exC 0 none 0 0).toArray) (exC 0 none 0 0) zeroExt rfl ?_; intro wa Ja sa ba)
            | (refine wpl_store (by rfl) 62 _ _ (by rfl) wr.heap.size (by rfl) _ (by rfl) (exC K Ak D ck) rfl 62 _ Ja (by rfl) _ sizeExt (by rfl) (by simp [Value.oneCell']) ?_; intro wb Jb sb gb)
            | (refine wpl_loadf (by rfl) 3 _ (by rfl) wr.heap.size 0 (by rfl) _ _ Jb _ rfl _ Tryd.underlying3 rfl ?_))
          have Ob := (O3.below ba (Nat.le_refl _)).grown gb (by intro g hg; have := (O3.blt g hg).2; simp; omega)
          have zb := hB.size
          have Db := (hBk.below ba zb).grown gb (by omega) (by intro g hg; simp at hg; omega)
          have Bb := (hB.trans (ba.mono zb)).trans (gb.below (by omega) zb)
          have hE := append_2 A3 N c3 _ _ lk K wb hN Ob.bs (Nat.le_refl _) (by omega) hK0 (by omega)
          clear Ja O3 ba gb hBk hrg hX hB
          with_reducible refine hE.mono ?_
          rintro e w2 ⟨A4, c4, rfl, O4, z4, b4⟩
          have J2 := Jb.below b4 Jb.lt
          have D2 := Db.below b4 (by omega)
          have B2 := Bb.trans (b4.mono Bb.size)
          have h4 : (lk ++ bytesB 2 K).length = N + 2 := by rw [List.length_append, bytesB_length, hN]
          clear hE Jb Db Ob Bb b4
          go_wp2_with (first | (refine wpl_loadf (by rfl) 23 _ (by rfl) wr.heap.size 1 (by rfl) _ _ J2 _ rfl _ Tryd.underlying23 rfl ?_))
          have hE := append_2 A4 (N + 2) c4 _ _ _ (4 + D) w2 h4 O4.bs (Nat.le_refl _) (by omega) (by omega) (by omega)
          with_reducible refine hE.mono ?_
          rintro e w3 ⟨A5, c5, rfl, O5, z5, b5⟩
          have J3 := J2.below b5 J2.lt
          have D3 := D2.below b5 (by omega)
          have B3 := B2.trans (b5.mono B2.size)
          have h5 : (lk ++ bytesB 2 K ++ bytesB 2 (4 + D)).length = N + 2 + 2 := by rw [List.length_append, bytesB_length, h4]
          clear hE J2 D2 O4 B2 b5
          go_wp2_with (first | (refine wpl_loadf (by rfl) 23 _ (by rfl) wr.heap.size 1 (by rfl) _ _ J3 _ rfl _ Tryd.underlying23 rfl ?_) | (at_builtin; refine wpList_append_bs rfl (.tmp 53) (.tmp 55) rfl (N + 2 + 2) c5 D ck (by rfl) (by rfl) h5 HD.out.symm O5 D3 (by omega) (by omega) ?_; intro A6 c6 w6 O6 b6 _))
          exact ⟨⟨k + 1, by omega, by go_num, ⟨A6, c6, _, rfl, by rw [HN.out, List.length_append, h5, HD.out], by rw [HN.out]; exact O6.wide (by omega)⟩, B3.trans (b6.mono (by omega))⟩, by simp [intOf]; omega⟩
        · obtain rfl : m = k := by omega
          rw [List.take_of_length_le (by omega)] at hN O3
          go_wp2
          go_ret2
          exact ⟨_, _, _, rfl, hN, O3, hB⟩
set_option maxHeartbeats 8000000 in
theorem rxappend_ok (A : Option Addr) (n c lo hi : Nat) (l : List Int) (B : Option Addr) (m d : Nat) (L : Flds) (w : World) (hn : l.length = n) (h : Bs w lo hi A l) (hh : hi ≤ w.heap.size) (hn2 : n ≤ 1000000) (hm : L.length = m) (hX : Xs w w.heap.size B L) (hmd : m ≤ d) (hd : d ≤ 9223372036854775807) (he : apxE L = 0) :
    Calls Tryd.prog 76 #[.slice A n c, .slice B m d] w fun e w' => ∃ A' c' N, e = .returned (.tuple #[.slice A' N c', .int .i64 0]) ∧ (l ++ fldsB L).length = N ∧ Ow w' w.heap.size A' c' (l ++ fldsB L) ∧ Below w.heap.size w w' := by
  obtain ⟨h16, hall⟩ := apx_parts he
  have hsum := fun j => sum_le hall h16 j
  rw [hm] at h16 hall
  have Hall := Lib.hid hall
  have Hsum := Lib.hid hsum
  clear he hall hsum
  have h16' : (m : Int) ≤ 16 := by omega
  go_enter Tryd.func76, Tryd.ntmps76
  go_wp2
  go_loopw [6] (fun i wr => ∃ k : Nat, k ≤ m ∧ i = .int .i64 k ∧ Below w.heap.size w wr) (fun i _ => m - (intOf i).toNat)
  case atStart => exact ⟨0, by omega, rfl, Below.refl _ _⟩
  case round =>
    obtain ⟨k, hk, rfl, hB⟩ := hrel
    by_cases hlt : k < m
    · skip
      obtain ⟨b, o, rfl, hbw, hx⟩ := (hX.below hB (Nat.le_refl _)) (by omega)
      obtain ⟨Ak, ck, hrg, hBk, hlc, hcm, hno⟩ := (hx k (by omega)).open'
      have hi0 : (0 : Int) ≤ k := by omega
      have hi1 : (k : Int) < m := by omega
      obtain ⟨K, hK⟩ : ∃ K, K = kdL L k := ⟨_, rfl⟩
      obtain ⟨D, hD⟩ : ∃ D, D = (dtL L k).length := ⟨_, rfl⟩
      rw [← hK, ← hD] at hrg
      rw [← hD] at hlc hno
      have HK := Lib.hid hK
      have HD := Lib.hid hD
      clear hx hK hD
      have hc0 : (chkE K D != 0) = false := by
        have := Hall.out k hlt
        rw [HK.out, HD.out]; simpa using this
      clear Hall Hsum
      go_wp2_with (first
        | (refine wpl_loadr (by rfl) 62 _ (by rfl) b (o + k * 2) (by rfl) _ hrg _ Tryd.underlying62 rfl _ sizeExt (by rfl) ?_)
        | (go_at_call 43; ((with_reducible refine (rchk_any _ _ _ _ _ (by omega)).mono ?_); rintro e wc ⟨rfl, bc⟩)))
      exact ⟨⟨k + 1, by omega, by go_num, hB.trans (bc.mono hB.size)⟩, by simp [intOf]; omega⟩
    · obtain rfl : m = k := by omega
      have O0 := ow_empty' (lo := w.heap.size) (Blk.new wr 5 #[] [] rfl) hB.size
      have h0 := (h.below hB hh).alloc (by have := hB.size; omega) (.cells #[] 5)
      go_wp2_with (at_builtin; refine wpList_append_bs rfl (.tmp 27) (.tmp 28) rfl 0 0 n c (by rfl) (by rfl) rfl hn O0 h0 (by omega) (by have := hB.size; simp; omega) ?_; intro A1 c1 w1 O1 b1 _)
      have B1 : Below w.heap.size w w1 := (hB.alloc hB.size _).trans b1
      clear O0 h0 b1
      go_loopw [8, 9] (fun v i wr => ∃ k : Nat, k ≤ m ∧ i = .int .i64 k ∧ OutR w wr (l ++ fldsB (L.take k)) v ∧ Below w.heap.size w wr) (fun _ i _ => m - (intOf i).toNat)
      case atStart => exact ⟨0, by omega, rfl, ⟨A1, c1, n, rfl, by simpa [fldsB] using hn, by simpa [fldsB] using O1⟩, B1⟩
      case round =>
        rename_i wq
        obtain ⟨k, hk, rfl, ⟨A3, c3, N, rfl, hN, O3⟩, hB⟩ := hrel
        clear B1 O1
        by_cases hlt : k < m
        · have hnext := fldsB_take (L := L) (k := k) (by omega)
          have hsz := Hsum.out (k + 1)
          have hsz0 := Hsum.out k
          have hck := Hall.out k hlt
          have hN2 : N ≤ 1004160 := by rw [← hN, List.length_append]; omega
          generalize hlk : l ++ fldsB (L.take k) = lk at hN O3
          have hnx : l ++ fldsB (L.take (k + 1)) = lk ++ bytesB 2 (kdL L k) ++ bytesB 2 (4 + (dtL L k).length) ++ dtL L k := by rw [hnext, ← hlk]; simp
          obtain ⟨b, o, rfl, hbw, hx⟩ := (hX.below hB (Nat.le_refl _)) (by omega)
          obtain ⟨Ak, ck, hrg, hBk, hlc, hcm, hno⟩ := (hx k (by omega)).open'
          have hi0 : (0 : Int) ≤ k := by omega
          have hi1 : (k : Int) < m := by omega
          obtain ⟨K, hK⟩ : ∃ K, K = kdL L k := ⟨_, rfl⟩
          obtain ⟨D, hD⟩ : ∃ D, D = (dtL L k).length := ⟨_, rfl⟩
          rw [← hK, ← hD] at hrg
          rw [← hD] at hlc hno
          have HK := Lib.hid hK
          have HD := Lib.hid hD
          clear hx hK hD
          rw [← HK.out, ← HD.out] at hnx hck
          obtain ⟨⟨hK0, hK1⟩, hD12, hD256, _⟩ := xchk_ok.1 hck
          have HN := Lib.hid hnx
          have zb := hB.size
          clear hnx hnext hsz hsz0 hck hlk Hall Hsum hX
          have k0 : wr.cell? ⟨b, o + k * 2, none⟩ = some (.int .i64 K) := by simpa using range_cell hrg 0 rfl
          have k1 : wr.cell? ⟨b, o + k * 2 + 1, none⟩ = some (.slice Ak D ck) := range_cell hrg 1 rfl
          clear hrg
          have hE := rappend_2 A3 N c3 _ _ lk K wr hN O3.bs (Nat.le_refl _) (by omega) hK0 (by omega)
          go_wp2_with fail
          with_reducible refine hE.mono ?_
          rintro e w2 ⟨A4, c4, rfl, O4, z4, b4⟩
          have k2 := kept_cell b4 k1 (by show b < _; omega)
          have D2 := hBk.below b4 (by omega)
          have B2 := hB.trans (b4.mono hB.size)
          have h4 : (lk ++ bytesB 2 K).length = N + 2 := by rw [List.length_append, bytesB_length, hN]
          clear hE k0 k1 hBk hB b4 O3
          have hE := rappend_2 A4 (N + 2) c4 _ _ _ (4 + D) w2 h4 O4.bs (Nat.le_refl _) (by omega) (by omega) (by omega)
          go_wp2_with fail
          with_reducible refine hE.mono ?_
          rintro e w3 ⟨A5, c5, rfl, O5, z5, b5⟩
          have k3 := kept_cell b5 k2 (by show b < _; omega)
          have D3 := D2.below b5 (by omega)
          have B3 := B2.trans (b5.mono B2.size)
          have h5 : (lk ++ bytesB 2 K ++ bytesB 2 (4 + D)).length = N + 2 + 2 := by rw [List.length_append, bytesB_length, h4]
          clear hE k2 D2 O4 B2 b5
          go_wp2_with (at_builtin; refine wpList_append_bs rfl (.tmp 60) (.tmp 65) rfl (N + 2 + 2) c5 D ck (by rfl) (by rfl) h5 HD.out.symm O5 D3 (by omega) (by omega) ?_; intro A6 c6 w6 O6 b6 _)
          exact ⟨⟨k + 1, by omega, by go_num, ⟨A6, c6, _, rfl, by rw [HN.out, List.length_append, h5, HD.out], by rw [HN.out]; exact O6.wide (by omega)⟩, B3.trans (b6.mono (by omega))⟩, by simp [intOf]; omega⟩
        · obtain rfl : m = k := by omega
          rw [List.take_of_length_le (by omega)] at hN O3
          go_wp2
          go_ret2
          exact ⟨_, _, _, rfl, hN, O3, hB⟩
end Go.Proofs.YtachhbbofemfdaaDoor
namespace Go.Proofs.YtachhbbofemfdaaDoor
open Go.RowKit
set_option linter.unusedSimpArgs false
set_option linter.unusedVariables false
set_option maxRecDepth 100000
def NoK (L : List (Int × List Int)) (kd : Int) (k : Nat) : Prop := ∀ j, j < k → kdL L j ≠ kd
set_option maxHeartbeats 4000000 in
theorem find_any (A : Option Addr) (c : Nat) (L : List (Int × List Int)) (n : Nat) (kd : Int) (w : World) (hn : L.length = n) (h : Xs w w.heap.size A L) (hnc : n ≤ c) (hc : c ≤ 9223372036854775807) (hsz : ∀ k, k < n → (dtL L k).length ≤ 140737488351232) :
    Calls Tryd.prog 31 #[.slice A n c, .int .i64 kd] w fun e w' => (e = .returned (.tuple #[.slice none 0 0, .bool false]) ∧ Hid (NoK L kd n) ∧ Below w.heap.size w w') ∨
      (∃ k A' c', e = .returned (.tuple #[.slice A' (dtL L k).length c', .bool true]) ∧ k < n ∧ kdL L k = kd ∧ Hid (NoK L kd k) ∧ Ow w' w.heap.size A' c' (dtL L k) ∧ Below w.heap.size w w') := by
  go_enter Tryd.func31, Tryd.ntmps31
  go_wp2
  go_loopw [10] (fun i wr => ∃ k : Nat, k ≤ n ∧ i = .int .i64 k ∧ Hid (NoK L kd k) ∧ Below w.heap.size w wr) (fun i _ => n - (intOf i).toNat)
  case atStart => exact ⟨0, by omega, rfl, fun j hj => by omega, Below.refl _ _⟩
  case round =>
    obtain ⟨k, hk, rfl, hN, hB⟩ := hrel
    by_cases hlt : k < n
    · obtain ⟨b, o, rfl, hbw, hx⟩ := (h.below hB (Nat.le_refl _)) (by omega)
      obtain ⟨Ak, ck, hrg, hBk, hlc, hcm, hno⟩ := (hx k (by omega)).open'
      have hi0 : (0 : Int) ≤ k := by omega
      have hi1 : (k : Int) < n := by omega
      have hs1 := hsz k hlt
      obtain ⟨K, hK⟩ : ∃ K, K = kdL L k := ⟨_, rfl⟩
      rw [← hK] at hrg
      have HK := Lib.hid hK
      clear hx hK
      by_cases he : K = kd
      · have he' : (K == kd) = true := by simpa using he
        have HE := Lib.hid he
        clear he
        go_wp2_with (first
          | (refine wpl_loadr (by rfl) 62 _ (by rfl) b (o + k * 2) (by rfl) _ hrg _ Tryd.underlying62 rfl _ sizeExt (by rfl) ?_)
          | (refine wpl_alloc (by rfl) 62 (by rfl) (.agg (exC 0 none 0 0).toArray) (exC 0 none 0 0) zeroExt rfl ?_; intro wa Ja sa ba)
          | (refine wpl_store (by rfl) 62 _ _ (by rfl) wr.heap.size (by rfl) _ (by rfl) (exC K Ak (dtL L k).length ck) rfl 62 _ Ja (by rfl) _ sizeExt (by rfl) (by simp [Value.oneCell']) ?_; intro wb Jb sb gb)
          | (refine wpl_loadf (by rfl) 3 _ (by rfl) wr.heap.size 0 (by rfl) _ _ Jb _ rfl _ Tryd.underlying3 rfl ?_)
          | (refine wpl_loadf (by rfl) 23 _ (by rfl) wr.heap.size 1 (by rfl) _ _ Jb _ rfl _ Tryd.underlying23 rfl ?_))
        have hBb := ((hBk.below ba (by have := hB.size; omega)).grown gb (by have := hB.size; omega) (by intro g hg; simp at hg; have := hB.size; omega))
        have hE := clone_any Ak (dtL L k).length ck 0 w.heap.size (dtL L k) wb rfl hBb (by have := hB.size; omega) (by omega) hno
        with_reducible refine hE.mono ?_
        rintro e wc ⟨A', c', rfl, hO, hz, bc⟩
        have Bc := ((hB.trans (ba.mono hB.size)).trans (gb.below (by have := hB.size; omega) hB.size)).trans (bc.mono (by have := hB.size; omega))
        go_wp2
        go_ret2
        exact .inr ⟨k, A', c', rfl, hlt, HK.out ▸ HE.out, hN, ⟨hO.1, by
          obtain ⟨h1, h2⟩ := hO.2
          refine ⟨h1, ?_⟩
          rcases h2 with h2 | ⟨g, cap, cur, e1, e2, e3⟩
          · exact .inl h2
          · exact .inr ⟨g, cap, cur, e1, by have := hB.size; omega, e3⟩⟩, Bc⟩
      · have he' : (K == kd) = false := by simpa using he
        have hN' : Hid (NoK L kd (k + 1)) := fun j hj => by
          rcases Nat.lt_or_ge j k with h1 | h1
          · exact hN.out j h1
          · obtain rfl : j = k := by omega
            exact HK.out ▸ he
        clear he
        go_wp2_with (first
          | (refine wpl_loadr (by rfl) 62 _ (by rfl) b (o + k * 2) (by rfl) _ hrg _ Tryd.underlying62 rfl _ sizeExt (by rfl) ?_)
          | (refine wpl_alloc (by rfl) 62 (by rfl) (.agg (exC 0 none 0 0).toArray) (exC 0 none 0 0) zeroExt rfl ?_; intro wa Ja sa ba)
          | (refine wpl_store (by rfl) 62 _ _ (by rfl) wr.heap.size (by rfl) _ (by rfl) (exC K Ak (dtL L k).length ck) rfl 62 _ Ja (by rfl) _ sizeExt (by rfl) (by simp [Value.oneCell']) ?_; intro wb Jb sb gb)
          | (refine wpl_loadf (by rfl) 3 _ (by rfl) wr.heap.size 0 (by rfl) _ _ Jb _ rfl _ Tryd.underlying3 rfl ?_)
          )
        exact ⟨⟨k + 1, by omega, by go_num, hN', (hB.trans (ba.mono hB.size)).trans (gb.below (by have := hB.size; omega) hB.size)⟩, by simp [intOf]; omega⟩
    · obtain rfl : k = n := by omega
      go_wp2
      go_ret2
      exact .inl ⟨rfl, hN, hB⟩
end Go.Proofs.YtachhbbofemfdaaDoor
namespace Go.Proofs.YtachhbbofemfdaaDoor
open Go.RowKit
set_option linter.unusedSimpArgs false
set_option linter.unusedVariables false
set_option maxRecDepth 100000
abbrev XT := (Int × List Int) × (Option Addr × Nat)
def rowX : List XT → List Value
  | [] => []
  | t :: r => .int .i64 t.1.1 :: .slice t.2.1 t.1.2.length t.2.2 :: rowX r
theorem rowX_len : ∀ T : List XT, (rowX T).length = T.length * 2
  | [] => rfl
  | t :: r => by simp only [rowX, List.length_cons, rowX_len r]; omega
theorem rowX_app : ∀ (T : List XT) (u : XT), rowX (T ++ [u]) = rowX T ++ [.int .i64 u.1.1, .slice u.2.1 u.1.2.length u.2.2]
  | [], u => rfl
  | t :: r, u => by simp only [List.cons_append, rowX, rowX_app r u]
theorem rowX_at : ∀ (T : List XT) (k : Nat) (h : k < T.length), (rowX T)[k * 2]? = some (.int .i64 (T[k]'h).1.1) ∧ (rowX T)[k * 2 + 1]? = some (.slice (T[k]'h).2.1 (T[k]'h).1.2.length (T[k]'h).2.2)
  | [], k, h => by simp at h
  | t :: r, 0, h => ⟨rfl, rfl⟩
  | t :: r, k + 1, h => by
    have := rowX_at r k (by simpa using h)
    have e : (k + 1) * 2 = k * 2 + 1 + 1 := by omega
    rw [e]
    exact this
/-- the call's own list of fields, each with its own bytes -/
def XOT (w : World) (lo : Nat) (A : Option Addr) (c : Nat) (T : List XT) : Prop := w.ownsRow lo 62 2 (.slice A T.length c) T.length (rowX T) ∧ ∀ t ∈ T, Ow w lo t.2.1 t.2.2 t.1.2
def flds (T : List XT) : Flds := T.map (·.1)
theorem flds_len (T : List XT) : (flds T).length = T.length := by simp [flds]
theorem flds_snoc (T : List XT) (u : XT) : flds (T ++ [u]) = flds T ++ [u.1] := by simp [flds]
def XO (w : World) (lo : Nat) (A : Option Addr) (c : Nat) (L : Flds) : Prop := ∃ T : List XT, flds T = L ∧ XOT w lo A c T
section
variable {w w' : World} {lo c : Nat} {A : Option Addr} {L : Flds} {T : List XT}
theorem XOT.nil (w : World) (lo : Nat) : XOT w lo none 0 [] := ⟨World.ownsRow_nil _ _ _ _, fun t ht => by cases ht⟩
theorem XO.nil (w : World) (lo : Nat) : XO w lo none 0 [] := ⟨[], rfl, XOT.nil w lo⟩
theorem own_nil' {E : TypeId} {size n : Nat} {xs : List Value} (h : w.ownsRow lo E size (.slice A n c) n xs) : A = none → n = 0 ∧ c = 0 := fun hA => by
  subst hA
  rcases h.2 with ⟨h1, _⟩ | ⟨g, cap, cur, h1, _⟩
  · injection h1 with _ h2 h3; exact ⟨h2, h3⟩
  · injection h1 with h2; cases h2
theorem XOT.cap (h : XOT w lo A c T) : T.length ≤ c ∧ c ≤ 9223372036854775807 ∧ (A = none → T.length = 0 ∧ c = 0) := by
  obtain ⟨h2, _⟩ := h
  refine ⟨?_, ?_, own_nil' h2⟩
  · rcases h2.2 with ⟨h3, h4⟩ | ⟨g, cap, cur, h3, _, _, h5, _⟩
    · injection h3 with _ h5 h6; omega
    · injection h3 with _ _ h6; omega
  · rcases h2.2 with ⟨h3, h4⟩ | ⟨g, cap, cur, h3, _, _, _, h5, _⟩
    · injection h3 with _ h5 h6; omega
    · injection h3 with _ _ h6; unfold maxLen at h5; omega
theorem XOT.keep (h : XOT w lo A c T) (hk : ∀ b, lo ≤ b → b < w.heap.size → w'.heap[b]? = w.heap[b]?) : XOT w' lo A c T :=
  ⟨own_kept h.1 fun g hg => hk g (h.1.lt g hg).1 (h.1.lt g hg).2, fun t ht => ⟨(h.2 t ht).1, own_kept (h.2 t ht).2 fun g hg => hk g ((h.2 t ht).2.lt g hg).1 ((h.2 t ht).2.lt g hg).2⟩⟩
theorem XOT.below {B : Nat} (h : XOT w lo A c T) (hb : Below B w w') (h1 : w.heap.size ≤ B) : XOT w' lo A c T := h.keep fun b _ h2 => hb.block b (by omega)
theorem XOT.alloc (h : XOT w lo A c T) (o : Obj) : XOT (w.alloc o) lo A c T := h.keep fun b _ h2 => heap_alloc_old w o h2
theorem XO.keep (h : XO w lo A c L) (hk : ∀ b, lo ≤ b → b < w.heap.size → w'.heap[b]? = w.heap[b]?) : XO w' lo A c L := by
  obtain ⟨T, h1, h2⟩ := h
  exact ⟨T, h1, h2.keep hk⟩
theorem XO.below {B : Nat} (h : XO w lo A c L) (hb : Below B w w') (h1 : w.heap.size ≤ B) : XO w' lo A c L := h.keep fun b _ h2 => hb.block b (by omega)
theorem XO.alloc (h : XO w lo A c L) (o : Obj) : XO (w.alloc o) lo A c L := h.keep fun b _ h2 => heap_alloc_old w o h2
theorem XO.drew (h : XO w lo A c L) : XO w.drew lo A c L := h
theorem XO.but {g : Nat} (h : XO w lo A c L) (hg : But g w w') (hlt : g < lo) : XO w' lo A c L := h.keep fun b h1 h2 => hg.block b h2 (by simp; omega)
theorem XO.cap (h : XO w lo A c L) : L.length ≤ c ∧ c ≤ 9223372036854775807 ∧ (A = none → L.length = 0 ∧ c = 0) := by
  obtain ⟨T, rfl, h2⟩ := h
  rw [flds_len]
  exact h2.cap
theorem XO.wide {lo' : Nat} (h : XO w lo A c L) (hl : lo' ≤ lo) : XO w lo' A c L := by
  obtain ⟨T, h1, h2, h3⟩ := h
  refine ⟨T, h1, ⟨h2.1, ?_⟩, fun t ht => (h3 t ht).wide hl⟩
  rcases h2.2 with h4 | ⟨g, cap, cur, e1, e2, e3⟩
  · exact .inl h4
  · exact .inr ⟨g, cap, cur, e1, by omega, e3⟩
theorem XO.byt (h : XO w lo A c L) : ∀ t ∈ L, Byt t.2 := by
  obtain ⟨T, rfl, _, h3⟩ := h
  intro t ht
  obtain ⟨u, hu, rfl⟩ := List.mem_map.1 ht
  exact (h3 u hu).1
/-- the list, read -/
theorem XO.xs (h : XO w lo A c L) : Xs w w.heap.size A L := by
  obtain ⟨T, rfl, h2, h3⟩ := h
  intro hp
  rw [flds_len] at hp
  obtain ⟨g, cap, e, h4, h5, _, _, hc⟩ := own_form h2 hp
  have hA : A = some ⟨g, 0, none⟩ := by injection e
  subst hA
  refine ⟨g, 0, rfl, h5, fun k hk => ?_⟩
  rw [flds_len] at hk
  obtain ⟨r0, r1⟩ := rowX_at T k hk
  have hO := h3 (T[k]) (List.getElem_mem hk)
  have e0 : kdL (flds T) k = (T[k]).1.1 := by unfold kdL flds; rw [List.getD_eq_getElem?_getD, List.getElem?_map, List.getElem?_eq_getElem hk]; rfl
  have e1 : dtL (flds T) k = (T[k]).1.2 := by unfold dtL flds; rw [List.getD_eq_getElem?_getD, List.getElem?_map, List.getElem?_eq_getElem hk]; rfl
  rw [e0, e1, Nat.zero_add]
  refine ⟨(T[k]).2.1, (T[k]).2.2, (hc _ (by omega)).trans r0, (hc _ (by omega)).trans r1, hO.bs.wide (Nat.zero_le _) (Nat.le_refl _), hO.cap_le, hO.cap_max, fun hn => ?_⟩
  rcases hO.form with ⟨_, hl, hc⟩ | ⟨g', hg', _⟩
  · exact ⟨by rw [hl]; rfl, hc⟩
  · rw [hn] at hg'; cases hg'
/-- two rows of other types do not share a block -/
theorem own_types {lo' n n' size size' : Nat} {E E' : TypeId} {v v' : Value} {xs xs' : List Value} (h : w.ownsRow lo E size v n xs) (h' : w.ownsRow lo' E' size' v' n' xs') (hne : E ≠ E') : ∀ g, v.ownBlock = some g → v'.ownBlock ≠ some g := fun g hg hg' => by
  rcases h.2 with ⟨e, _⟩ | ⟨b, cap, cur, e, _, hb, _⟩
  · rw [e] at hg; simp [Value.ownBlock] at hg
  · rcases h'.2 with ⟨e', _⟩ | ⟨b', cap', cur', e', _, hb', _⟩
    · rw [e'] at hg'; simp [Value.ownBlock] at hg'
    · rw [e] at hg; rw [e'] at hg'
      simp [Value.ownBlock] at hg hg'
      subst hg
      subst hg'
      rw [hb] at hb'
      injection hb' with hb'
      injection hb' with _ ht
      exact hne ht
/-- one field more -/
theorem xo_push {w1 : World} {v v' : Value} {A1 : Option Addr} {c1 : Nat} {kd : Int} {dt : List Int} (hT : ∀ t ∈ T, Ow w lo t.2.1 t.2.2 t.1.2) (hrow : w.ownsRow lo 62 2 v T.length (rowX T)) (hd : Ow w lo A1 c1 dt)
    (hr : w1.ownsRow lo 62 2 v' (T.length + 1) (rowX T ++ [.int .i64 kd, .slice A1 dt.length c1])) (hg : w.grownBy w1 v.ownBlock) : ∃ A' c', v' = .slice A' (T.length + 1) c' ∧ XOT w1 lo A' c' (T ++ [((kd, dt), (A1, c1))]) := by
  have key : ∀ {A : Option Addr} {c : Nat} {l : List Int}, Ow w lo A c l → Ow w1 lo A c l := fun {A c l} h => ⟨h.1, own_kept h.2 fun g hgg => hg.block g (h.2.lt g hgg).2 (fun e => own_types hrow h.2 (by decide) g e.symm hgg)⟩
  obtain ⟨g, cap, rfl, _⟩ := own_form hr (by omega)
  refine ⟨_, _, rfl, ?_, fun t ht => ?_⟩
  · rw [List.length_append, rowX_app]
    exact hr
  · rcases List.mem_append.1 ht with ht | ht
    · exact key (hT t ht)
    · rw [List.mem_singleton.1 ht]; exact key hd
end
theorem infoExt : (Tryd.prog.info? 62).map (fun i => (i.zero, i.size, i.bytes)) = some (some (.agg #[.int .i64 0, .slice none 0 0]), 2, 32) := by kernel_rfl
/-- the state of Parse's loop -/
def ParR (w0 : World) (PR : Flds × List Int × Int) (wr : World) (bv lv : Value) : Prop :=
  ∃ (T : List XT) (A : Option Addr) (c : Nat) (B : Option Addr) (n cb : Nat) (rest : List Int) (f : Nat), lv = .slice A T.length c ∧ XOT wr w0.heap.size A c T ∧ bv = .slice B n cb ∧ rest.length = n ∧ Bs wr 0 w0.heap.size B rest ∧ n ≤ cb ∧ cb ≤ 9223372036854775807 ∧ n ≤ f ∧ n ≤ 1000000 ∧ prs f (flds T) rest = PR ∧ T.length ≤ 16 ∧ Below w0.heap.size w0 wr
def lenV : Value → Nat
  | .slice _ n _ => n
  | _ => 0
theorem prs_end {f : Nat} {acc : Flds} {l : List Int} {PR : Flds × List Int × Int} (h : prs f acc l = PR) (h0 : l.length = 0) : PR = (acc, [], 0) := by
  rw [← h]
  cases f with
  | zero => rfl
  | succ f => rw [prs, if_pos h0]
theorem prs_auth {f : Nat} {acc : Flds} {l : List Int} {PR : Flds × List Int × Int} (h : prs f acc l = PR) (hf : l.length ≤ f) (h0 : l.length = 12) : PR = (acc, l, 0) := by
  rw [← h]
  cases f with
  | zero => omega
  | succ f => rw [prs, if_neg (by omega), if_pos h0]
theorem prs_short {f : Nat} {acc : Flds} {l : List Int} {PR : Flds × List Int × Int} (h : prs f acc l = PR) (hf : l.length ≤ f) (h0 : l.length ≠ 0) (h1 : l.length ≠ 12) (h2 : l.length < 16) : PR = ([], [], 5) := by
  rw [← h]
  cases f with
  | zero => omega
  | succ f => rw [prs, if_neg h0, if_neg h1, if_pos h2]
theorem prs_form {f : Nat} {acc : Flds} {l : List Int} {PR : Flds × List Int × Int} (h : prs f acc l = PR) (hf : l.length ≤ f) (h2 : 16 ≤ l.length) (h3 : psz l < 16 ∨ psz l % 4 ≠ 0) : PR = ([], [], 7) := by
  rw [← h]
  cases f with
  | zero => omega
  | succ f => rw [prs, if_neg (by omega), if_neg (by omega), if_neg (by omega), if_pos h3]
theorem prs_short2 {f : Nat} {acc : Flds} {l : List Int} {PR : Flds × List Int × Int} (h : prs f acc l = PR) (hf : l.length ≤ f) (h2 : 16 ≤ l.length) (h3 : ¬(psz l < 16 ∨ psz l % 4 ≠ 0)) (h4 : l.length < psz l) : PR = ([], [], 5) := by
  rw [← h]
  cases f with
  | zero => omega
  | succ f => rw [prs, if_neg (by omega), if_neg (by omega), if_neg (by omega), if_neg h3, if_pos h4]
theorem prs_long {f : Nat} {acc : Flds} {l : List Int} {PR : Flds × List Int × Int} (h : prs f acc l = PR) (hf : l.length ≤ f) (h2 : 16 ≤ l.length) (h3 : ¬(psz l < 16 ∨ psz l % 4 ≠ 0)) (h4 : psz l ≤ l.length) (h5 : acc.length = 16 ∨ 260 < psz l) : PR = ([], [], 6) := by
  rw [← h]
  cases f with
  | zero => omega
  | succ f => rw [prs, if_neg (by omega), if_neg (by omega), if_neg (by omega), if_neg h3, if_neg (by omega), if_pos h5]
theorem prs_next {f : Nat} {acc : Flds} {l : List Int} {PR : Flds × List Int × Int} (h : prs f acc l = PR) (hf : l.length ≤ f) (h2 : 16 ≤ l.length) (h3 : ¬(psz l < 16 ∨ psz l % 4 ≠ 0)) (h4 : psz l ≤ l.length) (h5 : ¬(acc.length = 16 ∨ 260 < psz l)) : ∃ f', (l.drop (psz l)).length ≤ f' ∧ prs f' (acc ++ [(pkd l, (l.take (psz l)).drop 4)]) (l.drop (psz l)) = PR := by
  cases f with
  | zero => omega
  | succ f =>
    refine ⟨f, by rw [List.length_drop]; omega, ?_⟩
    rw [← h, prs, if_neg (by omega), if_neg (by omega), if_neg (by omega), if_neg h3, if_neg (by omega), if_neg h5]
open Go.RowKit
theorem get_kd (A : Option Addr) (n c lo hi : Nat) (l : List Int) (w : World) (hn : l.length = n) (h : Bs w lo hi A l) (hm : n ≤ c) (hc : c ≤ 9223372036854775807) (h16 : 16 ≤ n) :
    Calls Tryd.prog 91 #[.slice A n c, .int .i64 0, .int .i64 2] w fun e w' => e = .returned (.tuple #[.int .u64 (pkd l), .int .i64 0]) ∧ w = w' := by
  have h1 := get_any A n c lo hi l 0 2 w hn h hm hc (by omega)
  unfold getR at h1
  rw [getE_0 (by omega) (by omega)] at h1
  exact h1
theorem get_sz (A : Option Addr) (n c lo hi : Nat) (l : List Int) (w : World) (hn : l.length = n) (h : Bs w lo hi A l) (hm : n ≤ c) (hc : c ≤ 9223372036854775807) (h16 : 16 ≤ n) :
    Calls Tryd.prog 91 #[.slice A n c, .int .i64 2, .int .i64 2] w fun e w' => e = .returned (.tuple #[.int .u64 ((psz l : Nat) : Int), .int .i64 0]) ∧ w = w' := by
  have h1 := get_any A n c lo hi l 2 2 w hn h hm hc (by omega)
  unfold getR at h1
  rw [getE_0 (by omega) (by omega)] at h1
  have e : ((psz l : Nat) : Int) = numB ((l.drop 2).take 2) := by
    have := (numB_range ((l.drop 2).take 2)).1
    unfold psz
    omega
  rw [e]
  exact h1
end Go.Proofs.YtachhbbofemfdaaDoor
