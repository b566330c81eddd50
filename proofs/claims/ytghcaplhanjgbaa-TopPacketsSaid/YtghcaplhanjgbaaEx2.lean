/- Extension fields: contracts of Check, Append, Auth and Split of the program, and of Check and Append of the reference. -/
import Derived.Test.YtghcaplhanjgbaaEx1
import Derived.Test.YtghcaplhanjgbaaOwn
import Derived.Test.YtghcaplhanjgbaaKp
import Derived.Test.YtghcaplhanjgbaaSlices
namespace Go.Proofs.Ytghcaplhanjgbaa
open Go.RowKit
set_option linter.unusedSimpArgs false
set_option linter.unusedVariables false
set_option maxRecDepth 100000
theorem ow_empty' {y : World} {lo g : Nat} (h : Blk y g 5 []) (hlo : lo ≤ g) : Ow y lo (some ⟨g, 0, none⟩) 0 [] :=
  ⟨Byt.nil, by simp, .inr ⟨g, 0, #[], rfl, hlo, h, Nat.zero_le _, by unfold maxLen; omega, by simp, by simp⟩⟩
abbrev exC (k : Int) (A : Option Addr) (n c : Nat) : List Value := [.int .i64 k, .slice A n c]
abbrev fxV (k : Int) (A : Option Addr) (n c : Nat) : Value := .agg #[.int .i64 k, .slice A n c]
theorem Xf.open' {w : World} {hi b o : Nat} {kd : Int} {dt : List Int} (h : Xf w hi b o kd dt) : ∃ A c, w.rangeAt b o [.int .i64 kd, .slice A dt.length c] ∧ Bs w 0 hi A dt ∧ dt.length ≤ c ∧ c ≤ 9223372036854775807 ∧ (A = none → dt.length = 0 ∧ c = 0) := by
  obtain ⟨A, c, c0, c1, hB, h3, h4, h5⟩ := h
  refine ⟨A, c, fun j v hv => ?_, hB, h3, h4, h5⟩
  match j with
  | 0 => simp at hv; rw [← hv]; exact c0
  | 1 => simp at hv; rw [← hv]; exact c1
  | j + 2 => simp at hv
open Go.RowKit
set_option maxHeartbeats 4000000 in
theorem chk_any (kd : Int) (A : Option Addr) (n c : Nat) (w : World) (hn : n ≤ 9223372036854775807) :
    Calls Try.prog 8 #[fxV kd A n c] w fun e w' => e = .returned (.int .i64 (chkE kd n)) ∧ Below w.heap.size w w' := by
  have n0 : (0 : Int) ≤ n := by omega
  by_cases h1 : kd < 0
  · have HE : Hid (chkE kd n = 3) := chk_range (by omega)
    have d1 : decide (kd < 0) = true := decide_eq_true h1
    clear h1
    go_enter Try.func8, Try.ntmps8
    go_wp2_with (first | ((refine wpl_box (by rfl) 36 _ (by rfl) _ (exC kd A n c) (by rfl) rfl ?_; intro w1 J1 s1 b1)) | (refine wpl_loadf (by rfl) 3 _ (by rfl) w.heap.size 0 (by rfl) _ _ J1 _ rfl _ Try.underlying3 rfl ?_) | (refine wpl_loadf (by rfl) 27 _ (by rfl) w.heap.size 1 (by rfl) _ _ J1 _ rfl _ Try.underlying27 rfl ?_))
    go_ret
    exact ⟨HE.out ▸ rfl, b1⟩
  · by_cases h2 : 65535 < kd
    · have HE : Hid (chkE kd n = 3) := chk_range (by omega)
      have d1 : decide (kd < 0) = false := decide_eq_false h1
      have d2 : decide (65535 < kd) = true := decide_eq_true h2
      clear h1 h2
      go_enter Try.func8, Try.ntmps8
      go_wp2_with (first | ((refine wpl_box (by rfl) 36 _ (by rfl) _ (exC kd A n c) (by rfl) rfl ?_; intro w1 J1 s1 b1)) | (refine wpl_loadf (by rfl) 3 _ (by rfl) w.heap.size 0 (by rfl) _ _ J1 _ rfl _ Try.underlying3 rfl ?_) | (refine wpl_loadf (by rfl) 27 _ (by rfl) w.heap.size 1 (by rfl) _ _ J1 _ rfl _ Try.underlying27 rfl ?_))
      go_ret
      exact ⟨HE.out ▸ rfl, b1⟩
    · have d1 : decide (kd < 0) = false := decide_eq_false h1
      have d2 : decide (65535 < kd) = false := decide_eq_false h2
      by_cases h3 : (n : Int) < 12
      · have HE : Hid (chkE kd n = 7) := chk_form (by omega) (by omega)
        have d3 : decide ((n : Int) < 12) = true := decide_eq_true h3
        clear h1 h2 h3
        go_enter Try.func8, Try.ntmps8
        go_wp2_with (first | ((refine wpl_box (by rfl) 36 _ (by rfl) _ (exC kd A n c) (by rfl) rfl ?_; intro w1 J1 s1 b1)) | (refine wpl_loadf (by rfl) 3 _ (by rfl) w.heap.size 0 (by rfl) _ _ J1 _ rfl _ Try.underlying3 rfl ?_) | (refine wpl_loadf (by rfl) 27 _ (by rfl) w.heap.size 1 (by rfl) _ _ J1 _ rfl _ Try.underlying27 rfl ?_))
        go_ret
        exact ⟨HE.out ▸ rfl, b1⟩
      · have d3 : decide ((n : Int) < 12) = false := decide_eq_false h3
        by_cases h4 : (256 : Int) < n
        · have HE : Hid (chkE kd n = 7) := chk_form (by omega) (by omega)
          have d4 : decide ((256 : Int) < n) = true := decide_eq_true h4
          clear h1 h2 h3 h4
          go_enter Try.func8, Try.ntmps8
          go_wp2_with (first | ((refine wpl_box (by rfl) 36 _ (by rfl) _ (exC kd A n c) (by rfl) rfl ?_; intro w1 J1 s1 b1)) | (refine wpl_loadf (by rfl) 3 _ (by rfl) w.heap.size 0 (by rfl) _ _ J1 _ rfl _ Try.underlying3 rfl ?_) | (refine wpl_loadf (by rfl) 27 _ (by rfl) w.heap.size 1 (by rfl) _ _ J1 _ rfl _ Try.underlying27 rfl ?_))
          go_ret
          exact ⟨HE.out ▸ rfl, b1⟩
        · have d4 : decide ((256 : Int) < n) = false := decide_eq_false h4
          by_cases h5 : (n : Int) % 4 = 0
          · have HE : Hid (chkE kd n = 0) := xchk_ok.2 (by omega)
            have d5 : ((n : Int) % 4 != 0) = false := by simpa using h5
            clear h1 h2 h3 h4 h5
            go_enter Try.func8, Try.ntmps8
            go_wp2_with (first | ((refine wpl_box (by rfl) 36 _ (by rfl) _ (exC kd A n c) (by rfl) rfl ?_; intro w1 J1 s1 b1)) | (refine wpl_loadf (by rfl) 3 _ (by rfl) w.heap.size 0 (by rfl) _ _ J1 _ rfl _ Try.underlying3 rfl ?_) | (refine wpl_loadf (by rfl) 27 _ (by rfl) w.heap.size 1 (by rfl) _ _ J1 _ rfl _ Try.underlying27 rfl ?_))
            go_ret
            exact ⟨HE.out ▸ rfl, b1⟩
          · have HE : Hid (chkE kd n = 7) := chk_form (by omega) (by omega)
            have d5 : ((n : Int) % 4 != 0) = true := by simpa using h5
            clear h1 h2 h3 h4 h5
            go_enter Try.func8, Try.ntmps8
            go_wp2_with (first | ((refine wpl_box (by rfl) 36 _ (by rfl) _ (exC kd A n c) (by rfl) rfl ?_; intro w1 J1 s1 b1)) | (refine wpl_loadf (by rfl) 3 _ (by rfl) w.heap.size 0 (by rfl) _ _ J1 _ rfl _ Try.underlying3 rfl ?_) | (refine wpl_loadf (by rfl) 27 _ (by rfl) w.heap.size 1 (by rfl) _ _ J1 _ rfl _ Try.underlying27 rfl ?_))
            go_ret
            exact ⟨HE.out ▸ rfl, b1⟩
open Go.RowKit
theorem append_2 (A : Option Addr) (nl c lo hi : Nat) (l : List Int) (n : Int) (w : World) (hnl : l.length = nl) (h : Bs w lo hi A l) (hh : hi ≤ w.heap.size) (hm : nl ≤ 140737488351232) (h0 : 0 ≤ n) (hf : n < 65536) :
    Calls Try.prog 16 #[.slice A nl c, .int .u64 n, .int .i64 2] w fun e w' => ∃ A' c', e = .returned (.tuple #[.slice A' (nl + 2) c', .int .i64 0]) ∧ Ow w' w.heap.size A' c' (l ++ bytesB 2 n) ∧ w.heap.size ≤ w'.heap.size ∧ Below w.heap.size w w' :=
  (append_ok A nl c lo hi l n 2 w hnl h hh hm (by omega) (by omega) (by omega) (by simpa using hf)).mono fun e w' ⟨h1, h2, h3, h4⟩ => ⟨_, _, h1, h2, by omega, h4⟩
/-- what has been written so far -/
def OutR (w0 wr : World) (lk : List Int) (v : Value) : Prop := ∃ A' c' N, v = .slice A' N c' ∧ lk.length = N ∧ Ow wr w0.heap.size A' c' lk
theorem apx_parts {L : Flds} (h : apxE L = 0) : L.length ≤ 16 ∧ ∀ k, k < L.length → chkE (kdL L k) (dtL L k).length = 0 := by
  unfold apxE at h
  split at h
  · omega
  · exact ⟨by omega, fun k hk => firE_all h _ (kd_mem hk)⟩
theorem apx_err {L : Flds} (h : apxE L ≠ 0) (hl : L.length ≤ 16) : apxE L = firE L ∧ ∃ k, k < L.length ∧ chkE (kdL L k) (dtL L k).length ≠ 0 := by
  have e : apxE L = firE L := by unfold apxE; rw [if_neg (by omega)]
  refine ⟨e, ?_⟩
  apply Classical.byContradiction
  intro hn
  refine h (e.trans (firE_ok L fun j hj => ?_))
  apply Classical.byContradiction
  intro h2
  exact hn ⟨j, hj, h2⟩
theorem sum_le {L : Flds} (h : ∀ k, k < L.length → chkE (kdL L k) (dtL L k).length = 0) (hl : L.length ≤ 16) (j : Nat) : (fldsB (L.take j)).length ≤ 4160 := by
  have h1 : ∀ t ∈ L.take j, t.2.length ≤ 256 := fun t ht => by
    have ht := List.mem_of_mem_take ht
    obtain ⟨i, hi, rfl⟩ := List.mem_iff_getElem.1 ht
    have h2 := h i hi
    unfold kdL dtL at h2
    rw [List.getD_eq_getElem?_getD, List.getElem?_eq_getElem hi] at h2
    have := xchk_ok.1 h2
    simp only [Option.getD_some] at this
    omega
  have h2 := fldsB_le h1
  have h3 : (L.take j).length ≤ 16 := by rw [List.length_take]; omega
  have h4 : (L.take j).length * (4 + 256) ≤ 16 * 260 := Nat.mul_le_mul_right 260 h3
  omega
set_option maxHeartbeats 8000000 in
theorem xappend_ok (A : Option Addr) (n c lo hi : Nat) (l : List Int) (B : Option Addr) (m d : Nat) (L : Flds) (w : World) (hn : l.length = n) (h : Bs w lo hi A l) (hh : hi ≤ w.heap.size) (hA : A = none → n = 0 ∧ c = 0) (hn2 : n ≤ 1000000) (hm : L.length = m) (hX : Xs w w.heap.size B L) (hmd : m ≤ d) (hd : d ≤ 9223372036854775807) (he : apxE L = 0) :
    Calls Try.prog 6 #[.slice A n c, .slice B m d] w fun e w' => ∃ A' c' N, e = .returned (.tuple #[.slice A' N c', .int .i64 0]) ∧ (l ++ fldsB L).length = N ∧ Ow w' w.heap.size A' c' (l ++ fldsB L) ∧ Below w.heap.size w w' := by
  obtain ⟨h16, hall⟩ := apx_parts he
  have hsum := fun j => sum_le hall h16 j
  rw [hm] at h16 hall
  have Hall := Lib.hid hall
  have Hsum := Lib.hid hsum
  clear he hall hsum
  have h16' : (m : Int) ≤ 16 := by omega
  go_enter Try.func6, Try.ntmps6
  go_wp2
  go_loopw [17] (fun i wr => ∃ k : Nat, k ≤ m ∧ i = .int .i64 k ∧ Below w.heap.size w wr) (fun i _ => m - (intOf i).toNat)
  case atStart => exact ⟨0, by omega, rfl, Below.refl _ _⟩
  case round =>
    obtain ⟨k, hk, rfl, hB⟩ := hrel
    by_cases hlt : k < m
    · skip
      obtain ⟨b, o, rfl, hbw, hx⟩ := (hX.below hB (Nat.le_refl _)) (by omega)
      obtain ⟨Ak, ck, hrg, hBk, hlc, hcm, hno⟩ := (hx k (by omega)).open'
      have hi0 : (0 : Int) ≤ k := by omega
      have hi1 : (k : Int) < m := by omega
      obtain ⟨K, hK⟩ : ∃ K, K = kdL L k := ⟨_, rfl⟩
      obtain ⟨D, hD⟩ : ∃ D, D = (dtL L k).length := ⟨_, rfl⟩
      rw [← hK, ← hD] at hrg
      rw [← hD] at hlc hno
      have HK := Lib.hid hK
      have HD := Lib.hid hD
      clear hx hK hD
      have hc0 : (chkE K D != 0) = false := by
        have := Hall.out k hlt
        rw [HK.out, HD.out]; simpa using this
      clear Hall Hsum
      go_wp2_with (first
        | (refine wpl_loadr (by rfl) 36 _ (by rfl) b (o + k * 2) (by rfl) _ hrg _ Try.underlying36 rfl _ sizeExt (by rfl) ?_)
        | (refine wpl_alloc (by rfl) 36 (by rfl) (.agg (exC 0 none 0 0).toArray) (exC 0 none 0 0) zeroExt rfl ?_; intro wa Ja sa ba)
        | (refine wpl_store (by rfl) 36 _ _ (by rfl) wr.heap.size (by rfl) _ (by rfl) (exC K Ak D ck) rfl 36 _ Ja (by rfl) _ sizeExt (by rfl) (by simp [Value.oneCell']) ?_; intro wb Jb sb gb)
        | (refine wpl_load (by rfl) 36 _ (by rfl) wr.heap.size (by rfl) 36 _ Jb _ Try.underlying36 rfl _ sizeExt (by rfl) ?_) | (go_at_call 8; ((with_reducible refine (chk_any _ _ _ _ _ (by omega)).mono ?_); rintro e wc ⟨rfl, bc⟩)))
      exact ⟨⟨k + 1, by omega, by go_num, ((hB.trans (ba.mono hB.size)).trans (gb.below (by have := hB.size; omega) hB.size)).trans (bc.mono (by have := hB.size; omega))⟩, by simp [intOf]; omega⟩
    · obtain rfl : m = k := by omega
      have hE := clone_any A n c lo hi l wr hn (h.below (hB.mono (by omega)) (Nat.le_refl _)) (by have := hB.size; omega) (by omega) hA
      go_wp2_with fail
      with_reducible refine hE.mono ?_
      rintro e w1 ⟨A1, c1, rfl, O1, z1, b1⟩
      have B1 := hB.trans (b1.mono hB.size)
      have O1' := O1.wide hB.size
      clear hE O1 b1
      go_wp2
      go_loopw [9, 31] (fun v i wr => ∃ k : Nat, k ≤ m ∧ i = .int .i64 k ∧ OutR w wr (l ++ fldsB (L.take k)) v ∧ Below w.heap.size w wr) (fun _ i _ => m - (intOf i).toNat)
      case atStart => exact ⟨0, by omega, rfl, ⟨A1, c1, n, rfl, by simpa [fldsB] using hn, by simpa [fldsB] using O1'⟩, B1⟩
      case round =>
        rename_i wq
        obtain ⟨k, hk, rfl, ⟨A3, c3, N, rfl, hN, O3⟩, hB⟩ := hrel
        clear B1 O1' z1
        by_cases hlt : k < m
        · have hnext := fldsB_take (L := L) (k := k) (by omega)
          have hsz := Hsum.out (k + 1)
          have hsz0 := Hsum.out k
          have hck := Hall.out k hlt
          have hN2 : N ≤ 1004160 := by rw [← hN, List.length_append]; omega
          generalize hlk : l ++ fldsB (L.take k) = lk at hN O3
          have hnx : l ++ fldsB (L.take (k + 1)) = lk ++ bytesB 2 (kdL L k) ++ bytesB 2 (4 + (dtL L k).length) ++ dtL L k := by rw [hnext, ← hlk]; simp
          obtain ⟨b, o, rfl, hbw, hx⟩ := (hX.below hB (Nat.le_refl _)) (by omega)
          obtain ⟨Ak, ck, hrg, hBk, hlc, hcm, hno⟩ := (hx k (by omega)).open'
          have hi0 : (0 : Int) ≤ k := by omega
          have hi1 : (k : Int) < m := by omega
          obtain ⟨K, hK⟩ : ∃ K, K = kdL L k := ⟨_, rfl⟩
          obtain ⟨D, hD⟩ : ∃ D, D = (dtL L k).length := ⟨_, rfl⟩
          rw [← hK, ← hD] at hrg
          rw [← hD] at hlc hno
          have HK := Lib.hid hK
          have HD := Lib.hid hD
          clear hx hK hD
          rw [← HK.out, ← HD.out] at hnx hck
          obtain ⟨⟨hK0, hK1⟩, hD12, hD256, _⟩ := xchk_ok.1 hck
          have HN := Lib.hid hnx
          clear hnx hnext hsz hsz0 hck hlk Hall Hsum
          go_wp2_with (first
            | (refine wpl_loadr (by rfl) 36 _ (by rfl) b (o + k * 2) (by rfl) _ hrg _ Try.underlying36 rfl _ sizeExt (by rfl) ?_)
            | (refine wpl_alloc (by rfl) 36 (by rfl) (.agg (exC 0 none 0 0).toArray) (exC 0 none 0 0) zeroExt rfl ?_; intro wa Ja sa ba)
            | (refine wpl_store (by rfl) 36 _ _ (by rfl) wr.heap.size (by rfl) _ (by rfl) (exC K Ak D ck) rfl 36 _ Ja (by rfl) _ sizeExt (by rfl) (by simp [Value.oneCell']) ?_; intro wb Jb sb gb)
            | (refine wpl_loadf (by rfl) 3 _ (by rfl) wr.heap.size 0 (by rfl) _ _ Jb _ rfl _ Try.underlying3 rfl ?_))
          have Ob := (O3.below ba (Nat.le_refl _)).grown gb (by intro g hg; have := (O3.blt g hg).2; simp; omega)
          have zb := hB.size
          have Db := (hBk.below ba zb).grown gb (by omega) (by intro g hg; simp at hg; omega)
          have Bb := (hB.trans (ba.mono zb)).trans (gb.below (by omega) zb)
          have hE := append_2 A3 N c3 _ _ lk K wb hN Ob.bs (Nat.le_refl _) (by omega) hK0 (by omega)
          clear Ja O3 ba gb hBk hrg hX hB
          with_reducible refine hE.mono ?_
          rintro e w2 ⟨A4, c4, rfl, O4, z4, b4⟩
          have J2 := Jb.below b4 Jb.lt
          have D2 := Db.below b4 (by omega)
          have B2 := Bb.trans (b4.mono Bb.size)
          have h4 : (lk ++ bytesB 2 K).length = N + 2 := by rw [List.length_append, bytesB_length, hN]
          clear hE Jb Db Ob Bb b4
          go_wp2_with (first | (refine wpl_loadf (by rfl) 27 _ (by rfl) wr.heap.size 1 (by rfl) _ _ J2 _ rfl _ Try.underlying27 rfl ?_))
          have hE := append_2 A4 (N + 2) c4 _ _ _ (4 + D) w2 h4 O4.bs (Nat.le_refl _) (by omega) (by omega) (by omega)
          with_reducible refine hE.mono ?_
          rintro e w3 ⟨A5, c5, rfl, O5, z5, b5⟩
          have J3 := J2.below b5 J2.lt
          have D3 := D2.below b5 (by omega)
          have B3 := B2.trans (b5.mono B2.size)
          have h5 : (lk ++ bytesB 2 K ++ bytesB 2 (4 + D)).length = N + 2 + 2 := by rw [List.length_append, bytesB_length, h4]
          clear hE J2 D2 O4 B2 b5
          go_wp2_with (first | (refine wpl_loadf (by rfl) 27 _ (by rfl) wr.heap.size 1 (by rfl) _ _ J3 _ rfl _ Try.underlying27 rfl ?_) | (at_builtin; refine wpList_append_bs rfl (.tmp 53) (.tmp 55) rfl (N + 2 + 2) c5 D ck (by rfl) (by rfl) h5 HD.out.symm O5 D3 (by omega) (by omega) ?_; intro A6 c6 w6 O6 b6 _))
          exact ⟨⟨k + 1, by omega, by go_num, ⟨A6, c6, _, rfl, by rw [HN.out, List.length_append, h5, HD.out], by rw [HN.out]; exact O6.wide (by omega)⟩, B3.trans (b6.mono (by omega))⟩, by simp [intOf]; omega⟩
        · obtain rfl : m = k := by omega
          rw [List.take_of_length_le (by omega)] at hN O3
          go_wp2
          go_ret2
          exact ⟨_, _, _, rfl, hN, O3, hB⟩
set_option maxHeartbeats 8000000 in
theorem xappend_err (A : Option Addr) (n c : Nat) (B : Option Addr) (m d : Nat) (L : Flds) (w : World) (hm : L.length = m) (hX : Xs w w.heap.size B L) (hmd : m ≤ d) (hd : d ≤ 9223372036854775807) (he : apxE L ≠ 0) :
    Calls Try.prog 6 #[.slice A n c, .slice B m d] w fun e w' => e = .returned (.tuple #[.slice none 0 0, .int .i64 (apxE L)]) ∧ Below w.heap.size w w' := by
  by_cases h16 : 16 < m
  · have hE : Hid (apxE L = 6) := by show apxE L = 6; unfold apxE; rw [if_pos (by omega)]
    have h16' : decide (16 < (m : Int)) = true := decide_eq_true (by omega)
    clear he
    go_enter Try.func6, Try.ntmps6
    go_wp2
    go_ret2
    exact ⟨by rw [hE.out]; rfl, Below.refl _ _⟩
  · obtain ⟨hfe, k0, hk0, hk1⟩ := apx_err he (by omega)
    have HF := Lib.hid hfe
    have HK1 := Lib.hid hk1
    clear he hfe hk1
    rw [hm] at hk0
    have h16' : (m : Int) ≤ 16 := by omega
    go_enter Try.func6, Try.ntmps6
    go_wp2
    go_loopw [17] (fun i wr => ∃ k : Nat, k ≤ m ∧ i = .int .i64 k ∧ Hid (∀ j, j < k → chkE (kdL L j) (dtL L j).length = 0) ∧ Below w.heap.size w wr) (fun i _ => m - (intOf i).toNat)
    case atStart => exact ⟨0, by omega, rfl, fun j hj => absurd hj (by omega), Below.refl _ _⟩
    case round =>
      obtain ⟨k, hk, rfl, hV, hB⟩ := hrel
      by_cases hlt : k < m
      · skip
        obtain ⟨b, o, rfl, hbw, hx⟩ := (hX.below hB (Nat.le_refl _)) (by omega)
        obtain ⟨Ak, ck, hrg, hBk, hlc, hcm, hno⟩ := (hx k (by omega)).open'
        have hi0 : (0 : Int) ≤ k := by omega
        have hi1 : (k : Int) < m := by omega
        obtain ⟨K, hK⟩ : ∃ K, K = kdL L k := ⟨_, rfl⟩
        obtain ⟨D, hD⟩ : ∃ D, D = (dtL L k).length := ⟨_, rfl⟩
        rw [← hK, ← hD] at hrg
        rw [← hD] at hlc hno
        have HK := Lib.hid hK
        have HD := Lib.hid hD
        clear hx hK hD
        obtain ⟨E, hEE⟩ : ∃ E, E = chkE K D := ⟨_, rfl⟩
        have hck := fun W => chk_any K Ak D ck W (by omega)
        simp only [← hEE] at hck
        by_cases hE0 : E = 0
        · have hc0 : (E != 0) = false := by simpa using hE0
          have hV' : Hid (∀ j, j < k + 1 → chkE (kdL L j) (dtL L j).length = 0) := fun j hj => by
            rcases Nat.lt_or_ge j k with h1 | h1
            · exact hV.out j h1
            · obtain rfl : j = k := by omega
              rw [← HK.out, ← HD.out, ← hEE, hE0]
          clear hEE hE0
          go_wp2_with (first
            | (refine wpl_loadr (by rfl) 36 _ (by rfl) b (o + k * 2) (by rfl) _ hrg _ Try.underlying36 rfl _ sizeExt (by rfl) ?_)
            | (refine wpl_alloc (by rfl) 36 (by rfl) (.agg (exC 0 none 0 0).toArray) (exC 0 none 0 0) zeroExt rfl ?_; intro wa Ja sa ba)
            | (refine wpl_store (by rfl) 36 _ _ (by rfl) wr.heap.size (by rfl) _ (by rfl) (exC K Ak D ck) rfl 36 _ Ja (by rfl) _ sizeExt (by rfl) (by simp [Value.oneCell']) ?_; intro wb Jb sb gb)
            | (refine wpl_load (by rfl) 36 _ (by rfl) wr.heap.size (by rfl) 36 _ Jb _ Try.underlying36 rfl _ sizeExt (by rfl) ?_) | (go_at_call 8; ((with_reducible refine (hck _).mono ?_); rintro e wc ⟨rfl, bc⟩)))
          exact ⟨⟨k + 1, by omega, by go_num, hV', ((hB.trans (ba.mono hB.size)).trans (gb.below (by have := hB.size; omega) hB.size)).trans (bc.mono (by have := hB.size; omega))⟩, by simp [intOf]; omega⟩
        · have hc0 : (E != 0) = true := by simpa using hE0
          have HR : Hid (apxE L = E) := by
            have h1 := firE_at L k hV.out (by omega) (by rw [← HK.out, ← HD.out, ← hEE]; exact hE0)
            rw [← HK.out, ← HD.out, ← hEE] at h1
            exact HF.out.trans h1
          clear hEE hE0
          go_wp2_with (first
            | (refine wpl_loadr (by rfl) 36 _ (by rfl) b (o + k * 2) (by rfl) _ hrg _ Try.underlying36 rfl _ sizeExt (by rfl) ?_)
            | (refine wpl_alloc (by rfl) 36 (by rfl) (.agg (exC 0 none 0 0).toArray) (exC 0 none 0 0) zeroExt rfl ?_; intro wa Ja sa ba)
            | (refine wpl_store (by rfl) 36 _ _ (by rfl) wr.heap.size (by rfl) _ (by rfl) (exC K Ak D ck) rfl 36 _ Ja (by rfl) _ sizeExt (by rfl) (by simp [Value.oneCell']) ?_; intro wb Jb sb gb)
            | (refine wpl_load (by rfl) 36 _ (by rfl) wr.heap.size (by rfl) 36 _ Jb _ Try.underlying36 rfl _ sizeExt (by rfl) ?_) | (go_at_call 8; ((with_reducible refine (hck _).mono ?_); rintro e wc ⟨rfl, bc⟩)))
          go_ret2
          exact ⟨by rw [HR.out]; rfl, ((hB.trans (ba.mono hB.size)).trans (gb.below (by have := hB.size; omega) hB.size)).trans (bc.mono (by have := hB.size; omega))⟩
      · exact absurd (hV.out k0 (by omega)) HK1.out
end Go.Proofs.Ytghcaplhanjgbaa
