/- What the readers of wire's reference do. -/
import Derived.Test.YtaioikmgimffjaaReader
namespace Go.Proofs.Ytaioikmgimffjaa
open Go.RowKit
set_option linter.unusedSimpArgs false
set_option linter.unusedVariables false
set_option maxHeartbeats 1000000 in
theorem rnewReader_any (A : Option Addr) (nl c lo hi : Nat) (l : List Int) (w : World) (hnl : l.length = nl) (h : Bs w lo hi A l) (hh : hi ≤ w.heap.size) (hm : nl ≤ 140737488355328) :
    Calls Try.prog 23 #[.slice A nl c] w fun r w' => ∃ g, r = .returned (rp g) ∧ Rd w' w.heap.size g l 0 ∧ g + 1 = w'.heap.size ∧ Below w.heap.size w w' := by
  subst hnl
  have hO1 := Ow.lit w [] #[] rfl Byt.nil (by simp)
  have hB1 := h.alloc hh (.cells #[] 5)
  go_enter Try.func23, Try.ntmps23
  go_wp2_with (at_builtin; refine wpList_append_bs rfl (.tmp 3) (.tmp 4) rfl 0 0 l.length c (by rfl) (by rfl) rfl rfl hO1 hB1 (by omega) (by simp) ?_; intro A1 c1 w1 hO hb1 _)
  simp only [List.nil_append] at hO
  have hb2 : Below w.heap.size w w1 := Below.trans ((Below.refl _ w).alloc (Nat.le_refl _) _) hb1
  have hcm : c1 ≤ 9223372036854775807 := hO.cap_max
  have hR := Rd.new w1 65 hO.bs hO.cap_le hcm hb2.size
  go_ret
  exact ⟨_, rfl, hR, by simp, hb2.alloc hb2.size _⟩
set_option maxHeartbeats 2000000 in
theorem rtake_any (lo g : Nat) (l : List Int) (e n : Int) (v : Bool) (w : World) (hR : Rd w lo g l e) (hv : v = true → 0 ≤ n) (hl : l.length ≤ 140737488355328) :
    Calls Try.prog 38 #[rp g, .int .i64 n, .bool v] w (BPost (tkL l e n v) lo g (tkR l e n v) (tkE l e n v) w) := by
  obtain ⟨A, c, h0, h1, hf, hB, hlc, hcm, hlo, hg⟩ := id hR
  have hnil := Ow.nil w w.heap.size
  by_cases he : e = 0
  · subst he
    cases v with
    | true =>
      have h2 := hv rfl
      by_cases hn : n ≤ l.length
      · have hok : tkOk l 0 n true = true := by simp [tkOk, hn]
        have hE : tkE l 0 n true = 0 := by simp [tkE]; omega
        obtain ⟨m, rfl⟩ : ∃ m : Nat, n = m := ⟨n.toNat, by omega⟩
        rw [(tk_yes hok).1, (tk_yes hok).2, hE, Int.toNat_natCast]
        clear hok hE
        have hlen : (l.take m).length = m := by rw [List.length_take]; omega
        have hO1 := Ow.lit w [] #[] rfl Byt.nil (by simp)
        have hB1 := (hB.take m).alloc (show g ≤ w.heap.size by omega) (.cells #[] 5)
        have hold : ∀ b, b < w.heap.size → (w.alloc (.cells #[] 5)).heap[b]? = w.heap[b]? := fun b hb => Below.heap_alloc _ _ _ hb
        go_enter Try.func38, Try.ntmps38
        go_wp2_with (at_builtin; refine wpList_append_bs rfl (.tmp 32) (.tmp 38) rfl 0 0 m c (by rfl) (by rfl) rfl hlen hO1 hB1 (by omega) (by simp) ?_; intro A1 c1 w1 hO hb1 hs1; (have hbk : ∀ b, b < w.heap.size → w1.heap[b]? = w.heap[b]? := fun b hb => (hb1.block b hb).trans (hold b hb)); (have hR1 := hR.keep (fun b _ hb => hbk b (by omega)) (by have := hb1.size; simp at this; omega)); (have g0 := (World.cell?_of_block (a := ⟨g, 0, none⟩) (hbk g hg)).trans h0); (have gf := fun o => (World.frozen?_of_block (a := ⟨g, o, none⟩) (hbk g hg)).trans (hf o)); clear hold)
        all_goals
          have hsz := hb1.size
          simp only [World.size_alloc] at hsz
          rw [List.nil_append] at hO
          have hbut : ∀ u, But g w (w1.setCell ⟨g, 0, none⟩ u) := fun u => ⟨hb1.os, hb1.tape, hb1.output, by simp [World.setCell]; omega, fun k hk hne => (Below.heap_setCell _ _ _ _ (fun e => hne (by rw [e]))).trans (hbk k hk)⟩
          have hsz' : ∀ u, w.heap.size ≤ (w1.setCell ⟨g, 0, none⟩ u).heap.size := fun u => by simp [World.setCell]; omega
          have hBk := hB.keep (w' := w1) (fun b o _ h2 => World.cell?_of_block (hbk b (by omega)))
        · obtain hm : l.length = m := by omega
          go_ret
          refine ⟨A1, c1, by rw [hlen]; rfl, hO.setlow (by simpa using hg) _, hR1.rest ?_ (by rw [List.length_drop]) (by omega) (by omega), hbut _, hsz' _⟩
          rw [List.drop_eq_nil_of_le (by omega)]; exact Bs.nil
        · go_ret
          exact ⟨A1, c1, by rw [hlen]; rfl, hO.setlow (by simpa using hg) _, hR1.rest (hBk.dropm m) (by rw [List.length_drop]) (by omega) (by omega), hbut _, hsz' _⟩
      · have hok : tkOk l 0 n true = false := by simp [tkOk, hn]
        have hE : tkE l 0 n true = 5 := by simp [tkE]; omega
        rw [(tk_no hok).1, (tk_no hok).2, hE]
        clear hok hE
        go_enter Try.func38, Try.ntmps38
        go_wp2
        go_ret
        exact ⟨none, 0, rfl, Ow.nil _ _, hR.err 5, but_set _, by simp [World.setCell]⟩
    | false =>
      have hok : tkOk l 0 n false = false := by simp [tkOk]
      have hE : tkE l 0 n false = 2 := by simp [tkE]
      rw [(tk_no hok).1, (tk_no hok).2, hE]
      clear hok hE
      go_enter Try.func38, Try.ntmps38
      go_wp2
      go_ret
      exact ⟨none, 0, rfl, Ow.nil _ _, hR.err 2, but_set _, by simp [World.setCell]⟩
  · have hok : tkOk l e n v = false := by simp [tkOk, he]
    have hE : tkE l e n v = e := by simp [tkE, he]
    have he' : (e != 0) = true := by simpa using he
    rw [(tk_no hok).1, (tk_no hok).2, hE]
    clear hok hE
    go_enter Try.func38, Try.ntmps38
    go_wp2
    go_ret
    exact ⟨none, 0, rfl, hnil, hR, World.grownBy.refl w _, Nat.le_refl _⟩
set_option maxHeartbeats 1000000 in
theorem rbytes_any (lo g : Nat) (l : List Int) (e n : Int) (w : World) (hR : Rd w lo g l e) (hl : l.length ≤ 140737488355328) :
    Calls Try.prog 28 #[rp g, .int .i64 n] w (BPost (tkL l e n (nnB n)) lo g (tkR l e n (nnB n)) (tkE l e n (nnB n)) w) := by
  have hD : decide (0 ≤ n) = nnB n := rfl
  go_enter Try.func28, Try.ntmps28
  go_wp2_with (first | (go_at_call 38; ((with_reducible refine (rtake_any lo g l e n _ _ hR nnB_nn hl).mono ?_); rintro e w1 ⟨A, c, rfl, hO, hR', hg, hz⟩)))
  go_ret
  exact ⟨_, _, rfl, hO, hR', hg, hz⟩
set_option maxHeartbeats 1000000 in
theorem rskip_any (lo g : Nat) (l : List Int) (e n : Int) (w : World) (hR : Rd w lo g l e) (hl : l.length ≤ 140737488355328) :
    Calls Try.prog 30 #[rp g, .int .i64 n] w (RPost (.tuple #[]) lo g (tkR l e n (nnB n)) (tkE l e n (nnB n)) w) := by
  have hD : decide (0 ≤ n) = nnB n := rfl
  go_enter Try.func30, Try.ntmps30
  go_wp2_with (first | (go_at_call 38; ((with_reducible refine (rtake_any lo g l e n _ _ hR nnB_nn hl).mono ?_); rintro e w1 ⟨A, c, rfl, hO, hR', hg, hz⟩)))
  go_end0
  exact ⟨rfl, hR', hg, hz⟩
set_option maxHeartbeats 1000000 in
theorem rleft_any (lo g : Nat) (l : List Int) (e : Int) (w : World) (hR : Rd w lo g l e) :
    Calls Try.prog 31 #[rp g] w fun r w' => r = .returned (.int .i64 l.length) ∧ w = w' := by
  obtain ⟨A, c, h0, h1, hf, hB, hlc, hcm, hlo, hg⟩ := id hR
  go_enter Try.func31, Try.ntmps31
  go_wp2
  go_ret
  exact ⟨rfl, rfl⟩
set_option maxHeartbeats 1000000 in
theorem rerr_any (lo g : Nat) (l : List Int) (e : Int) (w : World) (hR : Rd w lo g l e) :
    Calls Try.prog 32 #[rp g] w fun r w' => r = .returned (.int .i64 e) ∧ w = w' := by
  obtain ⟨A, c, h0, h1, hf, hB, hlc, hcm, hlo, hg⟩ := id hR
  go_enter Try.func32, Try.ntmps32
  go_wp2
  go_ret
  exact ⟨rfl, rfl⟩
theorem getV_all (L : List Int) (s : Int) (h : (L.length : Int) = s) : z0 (getE L.length 0 s) (getV L 0 s) = if 1 ≤ s ∧ s ≤ 8 then numB L else 0 := by
  by_cases hs : 1 ≤ s ∧ s ≤ 8
  · rw [getE_0 hs (by omega), z0_zero, if_pos hs]
    unfold getV
    rw [show s.toNat = L.length by omega]; simp
  · rw [getE_2 hs, if_neg hs]; rfl
theorem uintV (l : List Int) (e s : Int) : z0 (getE (tkL l e s (szB s)).length 0 s) (getV (tkL l e s (szB s)) 0 s) = numB (tkL l e s (szB s)) := by
  by_cases hs : 1 ≤ s ∧ s ≤ 8
  · by_cases hk : tkOk l e s (szB s) = true
    · have hlen : ((tkL l e s (szB s)).length : Int) = s := by
        rw [(tk_yes hk).1]; simp [tkOk] at hk; rw [List.length_take]; omega
      rw [getV_all _ _ hlen, if_pos hs]
    · rw [(tk_no (by simpa using hk)).1, List.length_nil, getE_5 hs (by simp; omega)]; rfl
  · have hk : tkOk l e s (szB s) = false := by simp [tkOk, szB, hs]
    rw [(tk_no hk).1, getE_2 hs]; rfl
set_option maxHeartbeats 1000000 in
theorem ruint_any (lo g : Nat) (l : List Int) (e s : Int) (w : World) (hR : Rd w lo g l e) (hl : l.length ≤ 140737488355328) :
    Calls Try.prog 25 #[rp g, .int .i64 s] w (RPost (.int .u64 (numB (tkL l e s (szB s)))) lo g (tkR l e s (szB s)) (tkE l e s (szB s)) w) := by
  have hlen := tkL_len l e s (szB s)
  have hV := uintV l e s
  rcases sz_cases s with ⟨h1, h2, hz, hd1, hd2⟩ | ⟨h1, h2, hz, hd1, hd2⟩ | ⟨h1, h2, hz, hd1, hd2⟩
  all_goals
    rw [hz] at hlen hV ⊢
    go_enter Try.func25, Try.ntmps25
    go_wp2_with (first | (go_at_call 38; ((with_reducible refine (rtake_any lo g l e s _ _ hR (fun h => by first | omega | cases h) hl).mono ?_); rintro e w1 ⟨A, c, rfl, hO, hR', hg, hz'⟩)) | (go_at_call 12; ((with_reducible refine (rget_any _ _ _ _ _ _ _ _ _ rfl hO.bs hO.cap_le hO.cap_max (by omega)).mono ?_); rintro e w2 ⟨rfl, rfl⟩)))
    go_ret
    exact ⟨rfl, hR', hg, hz'⟩
theorem foldB_val (L : List Int) : ∀ v : Int, 0 ≤ v → v < 18446744073709551616 → L.foldl stepB v = (v * 256 ^ L.length + numB L) % 18446744073709551616 := by
  induction L with
  | nil => intro v h0 h1; simp [numB]; omega
  | cons x t ih =>
    intro v h0 h1
    have hv := stepB_range v x
    have h0' := stepB_range 0 x
    rw [List.foldl_cons, ih _ hv.1 hv.2]
    have e : numB (x :: t) = (stepB 0 x * 256 ^ t.length + numB t) % 18446744073709551616 := by
      show (x :: t).foldl stepB 0 = _
      rw [List.foldl_cons, ih _ h0'.1 h0'.2]
    rw [e, List.length_cons, Int.pow_succ]
    unfold stepB
    generalize (256 : Int) ^ t.length = p
    generalize numB t = r
    have e1 : ((v * 256 + x) % 18446744073709551616 * p + r) % 18446744073709551616 = ((v * 256 + x) * p + r) % 18446744073709551616 := by
      rw [Int.add_emod, Int.mul_emod, Int.emod_emod_of_dvd _ (Int.dvd_refl _), ← Int.mul_emod, ← Int.add_emod]
    have e2 : (v * (p * 256) + (((0 * 256 + x) % 18446744073709551616 * p + r) % 18446744073709551616)) % 18446744073709551616 = (v * (p * 256) + (x * p + r)) % 18446744073709551616 := by
      rw [Int.zero_mul, Int.zero_add, Int.add_emod_emod]
      rw [← Int.add_assoc, ← Int.add_assoc, Int.add_emod, Int.add_emod (v * (p * 256) + x * p)]
      congr 2
      rw [Int.add_emod, Int.mul_emod (x % _), Int.emod_emod_of_dvd _ (Int.dvd_refl _), ← Int.mul_emod, ← Int.add_emod]
    rw [e1, e2]
    congr 1
    rw [Int.add_mul, Int.mul_assoc, Int.mul_comm p 256, Int.add_assoc]
theorem head_top {L : List Int} (hb : Byt L) (h1 : 1 ≤ L.length) (h8 : L.length ≤ 8) : (128 ≤ atB L 0 → ¬ 2 * numB L < 256 ^ L.length) ∧ (¬ 128 ≤ atB L 0 → 2 * numB L < 256 ^ L.length) := by
  cases L with
  | nil => simp at h1
  | cons x t =>
    have hx := hb.at 0
    have e0 : atB (x :: t) 0 = x := rfl
    rw [e0] at hx ⊢
    have hbt : Byt t := fun y hy => hb y (by simp [hy])
    have ht := numB_lt hbt
    have ht0 := (numB_range t).1
    have e : numB (x :: t) = x * 256 ^ t.length + numB t := by
      show (x :: t).foldl stepB 0 = _
      rw [List.foldl_cons, show stepB 0 x = x by unfold stepB; omega, foldB_val t x hx.1 (by omega)]
      have hl : t.length ≤ 7 := by simp at h8; exact h8
      have hp : (256 : Int) ^ (t.length + 1) ≤ 18446744073709551616 := by
        have : t.length = 0 ∨ t.length = 1 ∨ t.length = 2 ∨ t.length = 3 ∨ t.length = 4 ∨ t.length = 5 ∨ t.length = 6 ∨ t.length = 7 := by omega
        rcases this with h | h | h | h | h | h | h | h <;> rw [h] <;> decide
      have hp0 : (0 : Int) < 256 ^ t.length := Int.pow_pos (by omega)
      rw [Int.pow_succ] at hp
      have hx2 : x * 256 ^ t.length ≤ 255 * 256 ^ t.length := Int.mul_le_mul_of_nonneg_right hx.2 (by omega)
      have hx3 : 0 ≤ x * 256 ^ t.length := Int.mul_nonneg hx.1 (by omega)
      omega
    rw [e, List.length_cons, Int.pow_succ]
    have hp0 : (0 : Int) < 256 ^ t.length := Int.pow_pos (by omega)
    constructor
    · intro h
      have : 128 * 256 ^ t.length ≤ x * 256 ^ t.length := Int.mul_le_mul_of_nonneg_right h (by omega)
      omega
    · intro h
      have : x * 256 ^ t.length ≤ 127 * 256 ^ t.length := Int.mul_le_mul_of_nonneg_right (by omega) (by omega)
      omega
theorem pow_le8 {k : Nat} (h : k ≤ 8) : (256 : Int) ^ k ≤ 18446744073709551616 := by
  have : k = 0 ∨ k = 1 ∨ k = 2 ∨ k = 3 ∨ k = 4 ∨ k = 5 ∨ k = 6 ∨ k = 7 ∨ k = 8 := by omega
  rcases this with h | h | h | h | h | h | h | h | h <;> rw [h] <;> decide
theorem rint_lo {L : List Int} (hb : Byt L) (h1 : 1 ≤ L.length) (h8 : L.length ≤ 8) (h : ¬ 128 ≤ atB L 0) : wrap64 (L.foldl stepB 0) = intB L := by
  have ht := (head_top hb h1 h8).2 h
  have hr := numB_range L
  have hp := pow_le8 h8
  rw [intB, if_neg (by omega), if_pos ht, foldB_val L 0 (by omega) (by omega)]
  unfold wrap64; omega
theorem rint_hi {L : List Int} (hb : Byt L) (h1 : 1 ≤ L.length) (h8 : L.length ≤ 8) (h : 128 ≤ atB L 0) : wrap64 (L.foldl stepB 18446744073709551615) = intB L := by
  have ht := (head_top hb h1 h8).1 h
  have hr := numB_range L
  have hn := numB_lt hb
  have hp := pow_le8 h8
  rw [intB, if_neg (by omega), if_neg ht, foldB_val L _ (by omega) (by omega)]
  unfold wrap64; omega
theorem foldB_succ (v : Int) (l : List Int) (k : Nat) (h : k < l.length) : (l.take (k + 1)).foldl stepB v = stepB ((l.take k).foldl stepB v) (atB l k) := by
  rw [take_succ' l k h, List.foldl_append]; rfl
theorem foldB_rng (l : List Int) (v : Int) (h0 : 0 ≤ v) (h1 : v < 18446744073709551616) : 0 ≤ l.foldl stepB v ∧ l.foldl stepB v < 18446744073709551616 := foldB_range l v ⟨h0, h1⟩
set_option maxHeartbeats 4000000 in
theorem rint_any (lo g : Nat) (l : List Int) (e s : Int) (w : World) (hR : Rd w lo g l e) (hl : l.length ≤ 140737488355328) :
    Calls Try.prog 26 #[rp g, .int .i64 s] w (RPost (.int .i64 (intB (tkL l e s (szB s)))) lo g (tkR l e s (szB s)) (tkE l e s (szB s)) w) := by
  have hlen := tkL_len l e s (szB s)
  rcases tkL_sz l e s with h0 | ⟨hk1, hk8⟩
  · have HI : intB (tkL l e s (szB s)) = 0 := by simp [intB, h0]
    have hcast : (((tkL l e s (szB s)).length : Int)) = 0 := by omega
    rcases sz_cases s with ⟨h1, h2, hz, hd1, hd2⟩ | ⟨h1, h2, hz, hd1, hd2⟩ | ⟨h1, h2, hz, hd1, hd2⟩
    all_goals
      rw [hz] at hlen HI h0 ⊢
      have HI' : Hid (intB _ = 0) := HI
      clear HI
      go_enter Try.func26, Try.ntmps26
      go_wp2_with (first | (go_at_call 38; ((with_reducible refine (rtake_any lo g l e s _ _ hR (fun h => by first | omega | cases h) hl).mono ?_); rintro e w1 ⟨A, c, rfl, hO, hR', hg, hz'⟩)))
      go_ret
      exact ⟨by rw [HI'.out]; rfl, hR', hg, hz'⟩
  · by_cases hs : 1 ≤ s ∧ s ≤ 8
    · have h1 := hs.1
      have h2 := hs.2
      have hz : szB s = true := by simp [szB]; omega
      rw [hz] at hlen hk1 hk8 ⊢
      have hk1' : (1 : Int) ≤ (tkL l e s true).length := by omega
      have hk0 : (0 : Int) < (tkL l e s true).length := by omega
      clear hs
      by_cases h128 : 128 ≤ atB (tkL l e s true) 0
      · have hx : bits BinOp.xor IntKind.u64 IntKind.u64.max 0 = 18446744073709551615 := by decide
        go_enter Try.func26, Try.ntmps26
        go_wp2_with (first | (go_at_call 38; ((with_reducible refine (rtake_any lo g l e s _ _ hR (fun h => by first | omega | cases h) hl).mono ?_); rintro e w1 ⟨A, c, rfl, hO, hR', hg, hz'⟩; (rcases hO.form with ⟨_, hn, _⟩ | ⟨gg, rfl, _, _⟩; exact absurd hn (by intro hn; rw [hn] at hk1; simp at hk1)); (have hc0 := hO.cell (k := 0) (by omega)))))
        go_loop [6, 7] (fun n i => ∃ k : Nat, k ≤ (tkL l e s true).length ∧ i = .int .i64 k ∧ n = .int .u64 (((tkL l e s true).take k).foldl stepB 18446744073709551615)) (fun _ i => (tkL l e s true).length - (intOf i).toNat)
        case atStart => exact ⟨0, by omega, rfl, by first | (simp; done) | (simp [*]; done) | (split <;> simp [*])⟩
        case round =>
          obtain ⟨k, hk, rfl, rfl⟩ := hrel
          by_cases hlt : k < (tkL l e s true).length
          · have hck := hO.cell hlt
            have hby := hO.1.at k
            have hS := foldB_succ 18446744073709551615 _ k hlt
            have hr := foldB_rng ((tkL l e s true).take k) 18446744073709551615 (by omega) (by omega)
            have hO' := shl_or (((tkL l e s true).take k).foldl stepB 18446744073709551615) (atB (tkL l e s true) k) hr.1 hby
            have hw : IntKind.u64.wrap (atB (tkL l e s true) k) = atB (tkL l e s true) k := by rw [IntKind.wrap_u64]; omega
            go_wp2
            exact ⟨⟨k + 1, by omega, by go_num, by rw [hS]⟩, by simp [intOf]; omega⟩
          · obtain rfl : k = (tkL l e s true).length := by omega
            have HR : Hid (wrap64 ((tkL l e s true).foldl stepB 18446744073709551615) = intB (tkL l e s true)) := rint_hi hO.1 hk1 hk8 (by omega)
            go_wp2
            go_ret
            exact ⟨by rw [← HR.out]; rfl, hR', hg, hz'⟩
      · go_enter Try.func26, Try.ntmps26
        go_wp2_with (first | (go_at_call 38; ((with_reducible refine (rtake_any lo g l e s _ _ hR (fun h => by first | omega | cases h) hl).mono ?_); rintro e w1 ⟨A, c, rfl, hO, hR', hg, hz'⟩; (rcases hO.form with ⟨_, hn, _⟩ | ⟨gg, rfl, _, _⟩; exact absurd hn (by intro hn; rw [hn] at hk1; simp at hk1)); (have hc0 := hO.cell (k := 0) (by omega)))))
        go_loop [6, 7] (fun n i => ∃ k : Nat, k ≤ (tkL l e s true).length ∧ i = .int .i64 k ∧ n = .int .u64 (((tkL l e s true).take k).foldl stepB 0)) (fun _ i => (tkL l e s true).length - (intOf i).toNat)
        case atStart => exact ⟨0, by omega, rfl, by first | (simp; done) | (simp [*]; done) | (split <;> simp [*])⟩
        case round =>
          obtain ⟨k, hk, rfl, rfl⟩ := hrel
          by_cases hlt : k < (tkL l e s true).length
          · have hck := hO.cell hlt
            have hby := hO.1.at k
            have hS := foldB_succ 0 _ k hlt
            have hr := foldB_rng ((tkL l e s true).take k) 0 (by omega) (by omega)
            have hO' := shl_or (((tkL l e s true).take k).foldl stepB 0) (atB (tkL l e s true) k) hr.1 hby
            have hw : IntKind.u64.wrap (atB (tkL l e s true) k) = atB (tkL l e s true) k := by rw [IntKind.wrap_u64]; omega
            go_wp2
            exact ⟨⟨k + 1, by omega, by go_num, by rw [hS]⟩, by simp [intOf]; omega⟩
          · obtain rfl : k = (tkL l e s true).length := by omega
            have HR : Hid (wrap64 ((tkL l e s true).foldl stepB 0) = intB (tkL l e s true)) := rint_lo hO.1 hk1 hk8 (by omega)
            go_wp2
            go_ret
            exact ⟨by rw [← HR.out]; rfl, hR', hg, hz'⟩
    · exfalso
      have hk : tkOk l e s (szB s) = false := by simp [tkOk, szB, hs]
      rw [(tk_no hk).1] at hk1; simp at hk1
end Go.Proofs.Ytaioikmgimffjaa
