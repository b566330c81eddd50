/- TopPackets (G9; P19, P20): for every input the law returns true, and its arguments read afterwards as before. No condition. -/
import Derived.Test.YtghcaplhanjgbaaEx6
import Derived.Test.YtghcaplhanjgbaaNtp9
import Derived.Test.YtghcaplhanjgbaaExt2
import Derived.Test.YtghcaplhanjgbaaNtp2
namespace Go.Proofs.Ytghcaplhanjgbaa
open Go.ChangeShapes Go.WideShapes Go.ChangeAt Go.RowKit Go.Joins
set_option linter.unusedSimpArgs false
set_option linter.unusedVariables false
set_option maxRecDepth 100000
theorem auth_len (id tag : Int) : (bytesB 4 id ++ bytesB 8 tag).length = 12 := by simp [bytesB_length]
theorem auth_id {id : Int} (tag : Int) (h0 : 0 ≤ id) (h1 : id ≤ 4294967295) : numB ((bytesB 4 id ++ bytesB 8 tag).take 4) = id := by
  rw [List.take_left' (bytesB_length _ _)]
  exact numB_bytesB' 4 id h0 (by have := (show (256 : Int) ^ 4 = 4294967296 from by decide); omega) (by omega)
theorem auth_tag (id : Int) {tag : Int} (h0 : 0 ≤ tag) (h1 : tag ≤ 18446744073709551615) : numB (((bytesB 4 id ++ bytesB 8 tag).drop 4).take 8) = tag := by
  rw [List.drop_left' (bytesB_length _ _), List.take_of_length_le (by simp [bytesB_length])]
  exact numB_bytesB' 8 tag h0 (by have := (show (256 : Int) ^ 8 = 18446744073709551616 from by decide); omega) (by omega)
theorem xs_byt {w : World} {hi : Nat} {A : Option Addr} {L : Flds} (h : Xs w hi A L) : ∀ t ∈ L, Byt t.2 := fun t ht => by
  obtain ⟨i, hi, rfl⟩ := List.mem_iff_getElem.1 ht
  obtain ⟨b, o, _, _, hx⟩ := h (by omega)
  obtain ⟨_, _, _, _, hB, _⟩ := hx i hi
  have := hB.byt
  unfold dtL at this
  rwa [List.getD_eq_getElem?_getD, List.getElem?_eq_getElem hi] at this
theorem xs_valid {w : World} {hi : Nat} {A : Option Addr} {L : Flds} (h : Xs w hi A L) (he : apxE L = 0) : AllV L ∧ L.length ≤ 16 := by
  obtain ⟨h1, h2⟩ := apx_parts he
  refine ⟨fun t ht => ⟨?_, xs_byt h t ht⟩, h1⟩
  obtain ⟨i, hi, rfl⟩ := List.mem_iff_getElem.1 ht
  have := h2 i hi
  unfold kdL dtL at this
  rwa [List.getD_eq_getElem?_getD, List.getElem?_eq_getElem hi] at this
theorem prs_eq {L : Flds} {a : List Int} (hv : AllV L ∧ L.length ≤ 16) (ha : a = [] ∨ a.length = 12) : prs (fldsB L ++ a).length [] (fldsB L ++ a) = (L, a, 0) := by
  obtain ⟨h1, h2, h3⟩ := prs_of hv.1 hv.2 ha
  exact Prod.ext h1 (Prod.ext h2 h3)
set_option maxHeartbeats 8000000 in
theorem ferr_any (B : Option Addr) (m d : Nat) (L : Flds) (w : World) (hm : L.length = m) (hX : Xs w w.heap.size B L) (hmd : m ≤ d) (hd : d ≤ 9223372036854775807) :
    Calls Try.prog 7 #[.slice B m d] w fun e w' => e = .returned (.int .i64 (apxE L)) ∧ Below w.heap.size w w' := by
  by_cases h16 : 16 < m
  · have hE : Hid (apxE L = 6) := by show apxE L = 6; unfold apxE; rw [if_pos (by omega)]
    have h16' : decide (16 < (m : Int)) = true := decide_eq_true (by omega)
    go_enter Try.func7, Try.ntmps7
    go_wp2
    go_ret
    exact ⟨by rw [hE.out]; rfl, Below.refl _ _⟩
  · have HF : Hid (apxE L = firE L) := by show _ = _; unfold apxE; rw [if_neg (by omega)]
    have h16' : (m : Int) ≤ 16 := by omega
    go_enter Try.func7, Try.ntmps7
    go_wp2
    go_loopw [11] (fun i wr => ∃ k : Nat, k ≤ m ∧ i = .int .i64 k ∧ Hid (∀ j, j < k → chkE (kdL L j) (dtL L j).length = 0) ∧ Below w.heap.size w wr) (fun i _ => m - (intOf i).toNat)
    case atStart => exact ⟨0, by omega, rfl, fun j hj => absurd hj (by omega), Below.refl _ _⟩
    case round =>
      obtain ⟨k, hk, rfl, hV, hB⟩ := hrel
      by_cases hlt : k < m
      · skip
        obtain ⟨b, o, rfl, hbw, hx⟩ := (hX.below hB (Nat.le_refl _)) (by omega)
        obtain ⟨Ak, ck, hrg, hBk, hlc, hcm, hno⟩ := (hx k (by omega)).open'
        have hi0 : (0 : Int) ≤ k := by omega
        have hi1 : (k : Int) < m := by omega
        obtain ⟨K, hK⟩ : ∃ K, K = kdL L k := ⟨_, rfl⟩
        obtain ⟨D, hD⟩ : ∃ D, D = (dtL L k).length := ⟨_, rfl⟩
        rw [← hK, ← hD] at hrg
        rw [← hD] at hlc hno
        have HK := Lib.hid hK
        have HD := Lib.hid hD
        clear hx hK hD
        obtain ⟨E, hEE⟩ : ∃ E, E = chkE K D := ⟨_, rfl⟩
        have hck := fun W => chk_any K Ak D ck W (by omega)
        simp only [← hEE] at hck
        by_cases hE0 : E = 0
        · have hc0 : (E != 0) = false := by simpa using hE0
          have hV' : Hid (∀ j, j < k + 1 → chkE (kdL L j) (dtL L j).length = 0) := fun j hj => by
            rcases Nat.lt_or_ge j k with h1 | h1
            · exact hV.out j h1
            · obtain rfl : j = k := by omega
              rw [← HK.out, ← HD.out, ← hEE, hE0]
          clear hEE hE0
          go_wp2_with (first
            | (refine wpl_loadr (by rfl) 36 _ (by rfl) b (o + k * 2) (by rfl) _ hrg _ Try.underlying36 rfl _ sizeExt (by rfl) ?_)
            | (refine wpl_alloc (by rfl) 36 (by rfl) (.agg (exC 0 none 0 0).toArray) (exC 0 none 0 0) zeroExt rfl ?_; intro wa Ja sa ba)
            | (refine wpl_store (by rfl) 36 _ _ (by rfl) wr.heap.size (by rfl) _ (by rfl) (exC K Ak D ck) rfl 36 _ Ja (by rfl) _ sizeExt (by rfl) (by simp [Value.oneCell']) ?_; intro wb Jb sb gb)
            | (refine wpl_load (by rfl) 36 _ (by rfl) wr.heap.size (by rfl) 36 _ Jb _ Try.underlying36 rfl _ sizeExt (by rfl) ?_) | (go_at_call 8; ((with_reducible refine (hck _).mono ?_); rintro e wc ⟨rfl, bc⟩)))
          exact ⟨⟨k + 1, by omega, by go_num, hV', ((hB.trans (ba.mono hB.size)).trans (gb.below (by have := hB.size; omega) hB.size)).trans (bc.mono (by have := hB.size; omega))⟩, by simp [intOf]; omega⟩
        · have hc0 : (E != 0) = true := by simpa using hE0
          have HR : Hid (apxE L = E) := by
            have h1 := firE_at L k hV.out (by omega) (by rw [← HK.out, ← HD.out, ← hEE]; exact hE0)
            rw [← HK.out, ← HD.out, ← hEE] at h1
            exact HF.out.trans h1
          clear hEE hE0
          go_wp2_with (first
            | (refine wpl_loadr (by rfl) 36 _ (by rfl) b (o + k * 2) (by rfl) _ hrg _ Try.underlying36 rfl _ sizeExt (by rfl) ?_)
            | (refine wpl_alloc (by rfl) 36 (by rfl) (.agg (exC 0 none 0 0).toArray) (exC 0 none 0 0) zeroExt rfl ?_; intro wa Ja sa ba)
            | (refine wpl_store (by rfl) 36 _ _ (by rfl) wr.heap.size (by rfl) _ (by rfl) (exC K Ak D ck) rfl 36 _ Ja (by rfl) _ sizeExt (by rfl) (by simp [Value.oneCell']) ?_; intro wb Jb sb gb)
            | (refine wpl_load (by rfl) 36 _ (by rfl) wr.heap.size (by rfl) 36 _ Jb _ Try.underlying36 rfl _ sizeExt (by rfl) ?_) | (go_at_call 8; ((with_reducible refine (hck _).mono ?_); rintro e wc ⟨rfl, bc⟩)))
          go_ret
          exact ⟨by rw [HR.out]; rfl, ((hB.trans (ba.mono hB.size)).trans (gb.below (by have := hB.size; omega) hB.size)).trans (bc.mono (by have := hB.size; omega))⟩
      · obtain rfl : m = k := by omega
        have HZ : Hid (apxE L = 0) := HF.out.trans (firE_ok L fun j hj => hV.out j (by omega))
        go_wp2
        go_ret
        exact ⟨by rw [HZ.out]; rfl, hB⟩
set_option maxRecDepth 100000 in
set_option maxHeartbeats 8000000 in
theorem pk_long (l v m st po pr rd rp id ref org rec xmt tag : Int) (B : Option Addr) (n d : Nat) (w : World) (hm : 30 < n) :
    Calls Try.prog 3 #[ntp l v m st po pr rd rp id ref org rec xmt, .slice B n d, .int .u64 tag] w fun e w' => e = .returned (.bool true) ∧ Below w.heap.size w w' := by
  have hm' : (30 : Int) < n := by omega
  go_enter Try.func3, Try.ntmps3
  go_wp2_with (first | (refine wpl_box (by rfl) 25 _ (by rfl) _ ([.int .i64 l, .int .i64 v, .int .i64 m, .int .i64 st, .int .i64 po, .int .i64 pr, .int .u32 rd, .int .u32 rp, .int .u32 id, .int .u64 ref, .int .u64 org, .int .u64 rec, .int .u64 xmt]) (by rfl) rfl ?_; intro w1 H1 s1 b1))
  go_ret
  exact ⟨rfl, b1⟩
set_option maxRecDepth 100000 in
set_option maxHeartbeats 8000000 in
theorem pk_bad (l v m st po pr rd rp id ref org rec xmt tag : Int) (B : Option Addr) (n d : Nat) (w : World) (hm : n ≤ 30) (hk : nchk l v m st po pr = 3) :
    Calls Try.prog 3 #[ntp l v m st po pr rd rp id ref org rec xmt, .slice B n d, .int .u64 tag] w fun e w' => e = .returned (.bool true) ∧ Below w.heap.size w w' := by
  have hm' : (n : Int) ≤ 30 := by omega
  have hE := fun W => encode_err l v m st po pr rd rp id ref org rec xmt W hk
  have hC := fun W => nchk_any l v m st po pr rd rp id ref org rec xmt W
  simp only [hk] at hC
  clear hk
  go_enter Try.func3, Try.ntmps3
  go_wp2_with (first
    | (refine wpl_box (by rfl) 25 _ (by rfl) _ ([.int .i64 l, .int .i64 v, .int .i64 m, .int .i64 st, .int .i64 po, .int .i64 pr, .int .u32 rd, .int .u32 rp, .int .u32 id, .int .u64 ref, .int .u64 org, .int .u64 rec, .int .u64 xmt]) (by rfl) rfl ?_; intro w1 H1 s1 b1) | (refine wpl_load (by rfl) 25 _ (by rfl) w.heap.size (by rfl) 25 _ H1 _ Try.underlying25 rfl _ sizeNtp (by rfl) ?_)
    | (go_at_call 4; ((with_reducible refine (hE _).mono ?_); rintro e w2 ⟨rfl, b2⟩; (have H2 := H1.below b2 (by omega))))
    | (refine wpl_load (by rfl) 25 _ (by rfl) w.heap.size (by rfl) 25 _ H2 _ Try.underlying25 rfl _ sizeNtp (by rfl) ?_)
    | (go_at_call 5; ((with_reducible refine (hC _).mono ?_); rintro e w3 ⟨rfl, b3⟩)))
  go_ret
  exact ⟨rfl, (b1.trans (b2.mono b1.size)).trans (b3.mono (by have := b1.size; have := b2.size; omega))⟩
theorem cellsI12 (W : World) : (Instr.makeSlice 27 (.int .i64 12) (.int .i64 12)).run Try.prog W = .ok (.slice (some ⟨W.heap.size, 0, none⟩) 12 12) (W.alloc (.cells (madeCells #[.int .u8 0] 12) 5)) := makeU8 .i64 .i64 12 (by omega) W
set_option maxRecDepth 100000 in
set_option maxHeartbeats 8000000 in
theorem pk_err (l v m st po pr rd rp id ref org rec xmt tag : Int) (B : Option Addr) (n d : Nat) (L : Flds) (w : World) (hm : n ≤ 30) (hk : nchk l v m st po pr = 0) (h6 : 0 ≤ rd ∧ rd ≤ 4294967295) (h7 : 0 ≤ rp ∧ rp ≤ 4294967295) (h8 : 0 ≤ id ∧ id ≤ 4294967295) (h9 : 0 ≤ ref ∧ ref ≤ 18446744073709551615) (h10 : 0 ≤ org ∧ org ≤ 18446744073709551615) (h11 : 0 ≤ rec ∧ rec ≤ 18446744073709551615) (h12 : 0 ≤ xmt ∧ xmt ≤ 18446744073709551615) (hl : L.length = n) (hX : Xs w w.heap.size B L) (hmd : n ≤ d) (hd : d ≤ 9223372036854775807) (he : apxE L ≠ 0) :
    Calls Try.prog 3 #[ntp l v m st po pr rd rp id ref org rec xmt, .slice B n d, .int .u64 tag] w fun e w' => e = .returned (.bool true) ∧ Below w.heap.size w w' := by
  have hm' : (n : Int) ≤ 30 := by omega
  have hC := fun W => nchk_any l v m st po pr rd rp id ref org rec xmt W
  simp only [hk] at hC
  obtain ⟨kl, kv, km, kst, kpo, kpr⟩ := nchk_ok hk
  have kv' : decide (v < 1) = false := decide_eq_false (by omega)
  have HK := Lib.hid hk
  clear hk kl kv km kst kpo kpr
  go_enter Try.func3, Try.ntmps3
  go_wp2_with (first
    | (refine wpl_box (by rfl) 25 _ (by rfl) _ ([.int .i64 l, .int .i64 v, .int .i64 m, .int .i64 st, .int .i64 po, .int .i64 pr, .int .u32 rd, .int .u32 rp, .int .u32 id, .int .u64 ref, .int .u64 org, .int .u64 rec, .int .u64 xmt]) (by rfl) rfl ?_; intro w1 H1 s1 b1) | (refine wpl_load (by rfl) 25 _ (by rfl) w.heap.size (by rfl) 25 _ H1 _ Try.underlying25 rfl _ sizeNtp (by rfl) ?_)
    | (go_at_call 4; ((with_reducible refine (encode_ok l v m st po pr rd rp id ref org rec xmt _ HK.out h6 h7 h8 h9 h10 h11 h12).mono ?_); rintro e w2 ⟨A2, c2, rfl, O2, hc2, hc2', b2⟩; (have H2 := H1.below b2 (by omega)); (have z2 := b2.size)))
    | (refine wpl_load (by rfl) 25 _ (by rfl) w.heap.size (by rfl) 25 _ H2 _ Try.underlying25 rfl _ sizeNtp (by rfl) ?_)
    | (go_at_call 5; ((with_reducible refine (hC _).mono ?_); rintro e w3 ⟨rfl, b3⟩; (have H3 := H2.below b3 (by omega)); (have z3 := b3.size)))
    | (refine wpl_loadf (by rfl) 3 _ (by rfl) w.heap.size 1 (by rfl) _ _ H3 _ rfl _ Try.underlying3 rfl ?_))
  have B3 := (b1.trans (b2.mono b1.size)).trans (b3.mono (by omega))
  have O3 := O2.below b3 (Nat.le_refl _)
  have X3 := (hX.below B3 (Nat.le_refl _)).wide (hi' := w3.heap.size) B3.size
  have hA2 : A2 = none → 48 = 0 ∧ c2 = 0 := fun hn => by
    obtain ⟨b, o, hb, _⟩ := O3.at (by rw [encH_len]; omega)
    rw [hn] at hb; cases hb
  clear hX b1 b2 b3 O2 H1 H2
  have hE := xappend_err A2 48 c2 B n d L w3 hl X3 hmd hd he
  have hF := fun W hx => ferr_any B n d L W hl hx hmd hd
  have he0 : (apxE L != 0) = true := by simpa using he
  generalize apxE L = E at hE hF he0
  have hmk := cellsI12
  clear he
  with_reducible refine hE.mono ?_
  rintro e w4 ⟨rfl, b4⟩
  have X4 := (X3.below b4 (Nat.le_refl _)).wide (hi' := w4.heap.size) b4.size
  go_wp2_with fail
  have hE2 := hF w4 X4
  with_reducible refine hE2.mono ?_
  rintro e w5 ⟨rfl, b5⟩
  have B5 := (B3.trans (b4.mono B3.size)).trans (b5.mono (by have := B3.size; have := b4.size; omega))
  clear hE hE2 hF
  go_wp2_with fail
  have hck := chk_any 1 (some ⟨w5.heap.size, 0, none⟩) 12 12 (w5.alloc (.cells (madeCells #[.int .u8 0] 12) 5)) (by omega)
  rw [show chkE 1 (12 : Nat) = 0 by decide] at hck
  with_reducible refine hck.mono ?_
  rintro e w6 ⟨rfl, b6⟩
  go_wp2_with fail
  go_ret
  exact ⟨rfl, (B5.alloc B5.size _).trans (b6.mono (by have := B5.size; simp; omega))⟩
set_option maxRecDepth 100000 in
set_option maxHeartbeats 16000000 in
theorem pk_ok (l v m st po pr rd rp id ref org rec xmt tag : Int) (B : Option Addr) (n d : Nat) (L : Flds) (w : World) (hm : n ≤ 30) (hk : nchk l v m st po pr = 0) (h6 : 0 ≤ rd ∧ rd ≤ 4294967295) (h7 : 0 ≤ rp ∧ rp ≤ 4294967295) (h8 : 0 ≤ id ∧ id ≤ 4294967295) (h9 : 0 ≤ ref ∧ ref ≤ 18446744073709551615) (h10 : 0 ≤ org ∧ org ≤ 18446744073709551615) (h11 : 0 ≤ rec ∧ rec ≤ 18446744073709551615) (h12 : 0 ≤ xmt ∧ xmt ≤ 18446744073709551615) (ht0 : 0 ≤ tag) (ht1 : tag ≤ 18446744073709551615) (hl : L.length = n) (hX : Xs w w.heap.size B L) (hmd : n ≤ d) (hd : d ≤ 9223372036854775807) (he : apxE L = 0) :
    Calls Try.prog 3 #[ntp l v m st po pr rd rp id ref org rec xmt, .slice B n d, .int .u64 tag] w fun e w' => e = .returned (.bool true) ∧ Below w.heap.size w w' := by
  have hV := xs_valid hX he
  have hsum : (fldsB L).length ≤ 4160 := by
    have h5 := apx_parts he
    have := sum_le h5.2 h5.1 L.length
    rwa [List.take_of_length_le (Nat.le_refl _)] at this
  have HP := Lib.hid (prs_eq (a := bytesB 4 7 ++ bytesB 8 tag) hV (.inr (auth_len 7 tag)))
  have HE := Lib.hid he
  have HAL := Lib.hid (auth_len 7 tag)
  have HS1 := Lib.hid (auth_id (id := 7) tag (by omega) (by omega))
  have HS2 := Lib.hid (auth_tag 7 ht0 ht1)
  have hE48 := encH_len l v m st po pr rd rp id ref org rec xmt
  have HE48 := Lib.hid hE48
  have hX0 := fun (W : World) (hb : Below w.heap.size w W) => (hX.below hb (Nat.le_refl _)).wide (hi' := W.heap.size) hb.size
  clear he hV hE48
  have hm' : (n : Int) ≤ 30 := by omega
  have hC := fun W => nchk_any l v m st po pr rd rp id ref org rec xmt W
  simp only [hk] at hC
  obtain ⟨kl, kv, km, kst, kpo, kpr⟩ := nchk_ok hk
  have kv' : decide (v < 1) = false := decide_eq_false (by omega)
  have HK := Lib.hid hk
  clear hk kl kv km kst kpo kpr
  go_enter Try.func3, Try.ntmps3
  go_wp2_with (first
    | (refine wpl_box (by rfl) 25 _ (by rfl) _ ([.int .i64 l, .int .i64 v, .int .i64 m, .int .i64 st, .int .i64 po, .int .i64 pr, .int .u32 rd, .int .u32 rp, .int .u32 id, .int .u64 ref, .int .u64 org, .int .u64 rec, .int .u64 xmt]) (by rfl) rfl ?_; intro w1 H1 s1 b1) | (refine wpl_load (by rfl) 25 _ (by rfl) w.heap.size (by rfl) 25 _ H1 _ Try.underlying25 rfl _ sizeNtp (by rfl) ?_)
    | (go_at_call 4; ((with_reducible refine (encode_ok l v m st po pr rd rp id ref org rec xmt _ HK.out h6 h7 h8 h9 h10 h11 h12).mono ?_); rintro e w2 ⟨A2, c2, rfl, O2, hc2, hc2', b2⟩; (have H2 := H1.below b2 (by omega)); (have z2 := b2.size)))
    | (refine wpl_load (by rfl) 25 _ (by rfl) w.heap.size (by rfl) 25 _ H2 _ Try.underlying25 rfl _ sizeNtp (by rfl) ?_)
    | (go_at_call 5; ((with_reducible refine (hC _).mono ?_); rintro e w3 ⟨rfl, b3⟩; (have H3 := H2.below b3 (by omega)); (have z3 := b3.size)))
    | (refine wpl_loadf (by rfl) 3 _ (by rfl) w.heap.size 1 (by rfl) _ _ H3 _ rfl _ Try.underlying3 rfl ?_))
  have B3 := (b1.trans (b2.mono b1.size)).trans (b3.mono (by omega))
  have O3 := O2.below b3 (Nat.le_refl _)
  have X3 := (hX.below B3 (Nat.le_refl _)).wide (hi' := w3.heap.size) B3.size
  have hA2 : A2 = none → 48 = 0 ∧ c2 = 0 := fun hn => by
    obtain ⟨b, o, hb, _⟩ := O3.at (by rw [encH_len]; omega)
    rw [hn] at hb; cases hb
  clear hX b1 b2 b3 O2 H1 H2
  have hE := xappend_ok A2 48 c2 _ _ (encH l v m st po pr rd rp id ref org rec xmt) B n d L w3 HE48.out O3 (by omega) hA2 (by omega) hl X3 hmd hd HE.out
  with_reducible refine hE.mono ?_
  rintro e w4 ⟨A4, c4, N4, rfl, hN4, O4, b4⟩
  have X4 := (X3.below b4 (Nat.le_refl _)).wide (hi' := w4.heap.size) b4.size
  have H4 := H3.below b4 H3.lt
  have B4 := B3.trans (b4.mono B3.size)
  have z4 := b4.size
  have hN48 : N4 = 48 + (fldsB L).length := by rw [← hN4, List.length_append, HE48.out]
  have HN4 := Lib.hid hN4
  have HN48 := Lib.hid hN48
  have hN9 : N4 ≤ 5000 := by omega
  clear hE X3 H3 B3 b4 O3 hA2 hN4 hN48
  go_wp2_with fail
  have hE := ferr_any B n d L w4 hl X4 hmd hd
  rw [HE.out] at hE
  with_reducible refine hE.mono ?_
  rintro e w5 ⟨rfl, b5⟩
  have X5 := (X4.below b5 (Nat.le_refl _)).wide (hi' := w5.heap.size) b5.size
  have H5 := H4.below b5 H4.lt
  have B5 := B4.trans (b5.mono B4.size)
  have z5 := b5.size
  have O5 := O4.below b5 (Nat.le_refl _)
  clear hE X4 H4 B4 b5 O4
  go_wp2_with fail
  have hE := auth_any 7 tag w5 (by omega) (by omega) ht0 ht1
  with_reducible refine hE.mono ?_
  rintro e w6 ⟨A6, c6, rfl, O6, b6⟩
  have X6 := (X5.below b6 (Nat.le_refl _)).wide (hi' := w6.heap.size) b6.size
  have H6 := H5.below b6 H5.lt
  have B6 := B5.trans (b6.mono B5.size)
  have z6 := b6.size
  have O5' := O5.below b6 (Nat.le_refl _)
  clear hE X5 H5 B5 b6 O5
  generalize hAu : bytesB 4 7 ++ bytesB 8 tag = au at HP HAL HS1 HS2 O6
  clear hAu
  have lt6 := H6.lt
  go_wp2_with (first | (at_builtin; refine wpList_append_bs rfl (.tmp 51) (.tmp 53) rfl N4 c4 12 c6 (by rfl) (by rfl) HN4.out HAL.out O5' O6.bs (by omega) (by omega) ?_; intro A7 c7 w7 O7 b7 _))
  have z3 : w.heap.size < w3.heap.size := by omega
  have H7 := H6.below b7 z3
  have B7 := B6.trans (b7.mono (by omega))
  have X7 : Xs w7 w7.heap.size B L := by
    have h := hX0 w7 B7
    exact h
  have z7 := b7.size
  have hl7 : (fldsB L ++ au).length + 48 = N4 + 12 := by rw [List.length_append, HAL.out]; have := HN48.out; omega
  rw [List.append_assoc] at O7
  have hE := decode_enc l v m st po pr rd rp id ref org rec xmt A7 (N4 + 12) c7 (fldsB L ++ au) w7 HK.out h6 h7 h8 h9 h10 h11 h12 hl7 (O7.bs.wide (Nat.zero_le _) (Nat.le_refl _)) (by omega)
  clear O6 O5' H6 B6 X6 b7 O7
  go_wp2_with fail
  with_reducible refine hE.mono ?_
  rintro e w8 ⟨A8, c8, rfl, O8, b8⟩
  have H8 := H7.below b8 H7.lt
  have B8 := B7.trans (b8.mono B7.size)
  have z8 := b8.size
  have l8 := H7.lt
  clear hE H7 B7 X7 b8
  go_wp2_with (first
    | (refine wpl_alloc (by rfl) 25 (by rfl) (.agg (zN).toArray) (zN) zeroNtp rfl ?_; intro w9 J9 s9 b9)
    | ((refine wpl_store (by rfl) 25 _ _ (by rfl) w8.heap.size (by rfl) _ (by rfl) _ rfl 25 _ J9 (by rfl) _ sizeNtp (by rfl) (by simp [Value.oneCell']) ?_; intro w10 J10 s10 g10); (have H10 := (H8.below b9 (by omega)).but g10 (by omega)))
    | (refine wpl_load (by rfl) 25 _ (by rfl) w8.heap.size (by rfl) 25 _ J10 _ Try.underlying25 rfl _ sizeNtp (by rfl) ?_) | (refine wpl_load (by rfl) 25 _ (by rfl) w.heap.size (by rfl) 25 _ H10 _ Try.underlying25 rfl _ sizeNtp (by rfl) ?_))
  have B10 := (B8.trans (b9.mono B8.size)).trans (g10.below (by have := B8.size; omega) B8.size)
  have O10 := (O8.bs.below b9 (Nat.le_refl _)).grown g10 (by omega) (by intro g hg; simp at hg; omega)
  have z10 := B10.size
  have hc8 := O8.cap_le
  have hcm8 := O8.cap_max
  have hl8 : (fldsB L ++ au).length = N4 - 36 := by omega
  rw [hl8] at hc8
  have hE := parse_any A8 (N4 - 36) c8 (fldsB L ++ au) w10 hl8 (O10.wide (Nat.zero_le _) (by omega)) hc8 hcm8 (by omega)
  rw [HP.out] at hE
  clear O8 H8 B8 b9 g10 J9 J10 O10 hl7 hl8 hc8 hcm8
  with_reducible refine hE.mono ?_
  rintro e w11 ⟨A11, c11, A12, c12, N11, N12, wm, rfl, hN11, hN12, X9, b9, b9', O11⟩
  simp only at hN11 hN12 X9
  obtain rfl : n = N11 := hl.symm.trans hN11
  obtain rfl : 12 = N12 := HAL.out.symm.trans hN12
  have b11 := b9.trans (b9'.mono b9.size)
  have X11 := (X9.below b9' (Nat.le_refl _)).xs
  have B11 := B10.trans (b11.mono B10.size)
  have XB := hX0 w11 B11
  have hcl := X9.cap
  rw [hl] at hcl
  obtain ⟨hcl1, hcl2, _⟩ := hcl
  have hbs := O11.bs
  have ha1 := O11.cap_le
  rw [HAL.out] at ha1
  have ha2 := O11.cap_max
  clear hE b9 b9' b11 X9 O11 H10
  go_wp2
  go_loopw [85] (fun i wr => ∃ k : Nat, k ≤ n ∧ i = .int .i64 k ∧ Below w11.heap.size w11 wr) (fun i _ => n - (intOf i).toNat)
  case atStart => exact ⟨0, by omega, rfl, Below.refl _ _⟩
  case round =>
    obtain ⟨k, hk, rfl, hBw⟩ := hrel
    by_cases hlt : k < n
    · obtain ⟨b, o, rfl, hbw, hx⟩ := (X11.below hBw (Nat.le_refl _)) (by omega)
      obtain ⟨b', o', rfl, hbw', hx'⟩ := (XB.below hBw (Nat.le_refl _)) (by omega)
      obtain ⟨Ak, ck, p0, p1, hBk, _⟩ := hx k (by omega)
      obtain ⟨Bk, dk, q0, q1, hBk', _⟩ := hx' k (by omega)
      have v1 := strOf_conv' (c := ck) rfl hBk.drew
      have v2 := strOf_conv' (c := dk) rfl hBk'.drew
      have hi0 : (0 : Int) ≤ k := by omega
      have hi1 : (k : Int) < n := by omega
      generalize strOf (dtL L k) = s at v1 v2
      generalize (dtL L k).length = D at p1 q1 v1 v2
      generalize kdL L k = K at p0 q0
      clear hx hx' X11 XB hBk hBk' hbs
      go_wp2_with fail
      refine wp_region_det (fun w' => w' = wr.drew) 26 (by kernel_rfl) rfl (by rfl) ?_
      simp only [List.replicate]
      (refine wpD_take (i := 0) (v := _) (by simp only [List.getElem?_toArray, List.getElem?_cons_succ, List.getElem?_cons_zero]; rfl) (by kernel_rfl) (by kernel_rfl) (by kernel_rfl) (by rfl) (YS.of_value (by intro w' hSw; (try dsimp only at hSw); go_simp; first | done | with_reducible rfl)) ?_; (try simp only [Act.put, List.setIfInBounds_toArray, List.set_cons_zero, List.set_cons_succ]))
      (refine wpD_take (i := 1) (v := _) (by simp only [List.getElem?_toArray, List.getElem?_cons_succ, List.getElem?_cons_zero]; rfl) (by kernel_rfl) (by kernel_rfl) (by kernel_rfl) (by rfl) (YS.of_value (by intro w' hSw; (try dsimp only at hSw); go_simp; first | done | with_reducible rfl)) ?_; (try simp only [Act.put, List.setIfInBounds_toArray, List.set_cons_zero, List.set_cons_succ]))
      (refine wpD_take (i := 2) (v := _) (by simp only [List.getElem?_toArray, List.getElem?_cons_succ, List.getElem?_cons_zero]; rfl) (by kernel_rfl) (by kernel_rfl) (by kernel_rfl) (by rfl) (YS.of_value (by intro w' hSw; (try dsimp only at hSw); go_simp; first | done | with_reducible rfl)) ?_; (try simp only [Act.put, List.setIfInBounds_toArray, List.set_cons_zero, List.set_cons_succ]))
      (refine wpD_take (i := 3) (v := _) (by simp only [List.getElem?_toArray, List.getElem?_cons_succ, List.getElem?_cons_zero]; rfl) (by kernel_rfl) (by kernel_rfl) (by kernel_rfl) (by rfl) (YS.of_value (by intro w' hSw; (try dsimp only at hSw); go_simp; first | done | with_reducible rfl)) ?_; (try simp only [Act.put, List.setIfInBounds_toArray, List.set_cons_zero, List.set_cons_succ]))
      (refine wpD_take (i := 4) (v := _) (by simp only [List.getElem?_toArray, List.getElem?_cons_succ, List.getElem?_cons_zero]; rfl) (by kernel_rfl) (by kernel_rfl) (by kernel_rfl) (by rfl) (YS.of_value (by intro w' hSw; (try dsimp only at hSw); go_simp; first | done | with_reducible rfl)) ?_; (try simp only [Act.put, List.setIfInBounds_toArray, List.set_cons_zero, List.set_cons_succ]))
      (refine wpD_take (i := 5) (v := _) (by simp only [List.getElem?_toArray, List.getElem?_cons_succ, List.getElem?_cons_zero]; rfl) (by kernel_rfl) (by kernel_rfl) (by kernel_rfl) (by rfl) (YS.of_value (by intro w' hSw; (try dsimp only at hSw); go_simp; first | done | with_reducible rfl)) ?_; (try simp only [Act.put, List.setIfInBounds_toArray, List.set_cons_zero, List.set_cons_succ]))
      (refine wpD_take (i := 6) (v := _) (by simp only [List.getElem?_toArray, List.getElem?_cons_succ, List.getElem?_cons_zero]; rfl) (by kernel_rfl) (by kernel_rfl) (by kernel_rfl) (by rfl) (YS.of_value (by intro w' hSw; (try dsimp only at hSw); go_simp; first | done | with_reducible rfl)) ?_; (try simp only [Act.put, List.setIfInBounds_toArray, List.set_cons_zero, List.set_cons_succ]))
      (refine wpD_take (i := 7) (v := _) (by simp only [List.getElem?_toArray, List.getElem?_cons_succ, List.getElem?_cons_zero]; rfl) (by kernel_rfl) (by kernel_rfl) (by kernel_rfl) (by rfl) (YS.of_value (by intro w' hSw; (try dsimp only at hSw); go_simp; first | done | with_reducible rfl)) ?_; (try simp only [Act.put, List.setIfInBounds_toArray, List.set_cons_zero, List.set_cons_succ]))
      (refine wpD_take (i := 8) (v := _) (by simp only [List.getElem?_toArray, List.getElem?_cons_succ, List.getElem?_cons_zero]; rfl) (by kernel_rfl) (by kernel_rfl) (by kernel_rfl) (by rfl) (YS.of_value (by intro w' hSw; (try dsimp only at hSw); go_simp; first | done | with_reducible rfl)) ?_; (try simp only [Act.put, List.setIfInBounds_toArray, List.set_cons_zero, List.set_cons_succ]))
      (refine wpD_take (i := 9) (v := _) (by simp only [List.getElem?_toArray, List.getElem?_cons_succ, List.getElem?_cons_zero]; rfl) (by kernel_rfl) (by kernel_rfl) (by kernel_rfl) (by rfl) (YS.of_value (by intro w' hSw; (try dsimp only at hSw); go_simp; first | done | with_reducible rfl)) ?_; (try simp only [Act.put, List.setIfInBounds_toArray, List.set_cons_zero, List.set_cons_succ]))
      (refine wpD_take (i := 10) (v := _) (by simp only [List.getElem?_toArray, List.getElem?_cons_succ, List.getElem?_cons_zero]; rfl) (by kernel_rfl) (by kernel_rfl) (by kernel_rfl) (by rfl) (YS.of_value (by intro w' hSw; (try dsimp only at hSw); go_simp; first | done | with_reducible rfl)) ?_; (try simp only [Act.put, List.setIfInBounds_toArray, List.set_cons_zero, List.set_cons_succ]))
      (refine wpD_take (i := 11) (v := _) (by simp only [List.getElem?_toArray, List.getElem?_cons_succ, List.getElem?_cons_zero]; rfl) (by kernel_rfl) (by kernel_rfl) (by kernel_rfl) (by rfl) (YS.of_value (by intro w' hSw; (try dsimp only at hSw); go_simp; first | done | with_reducible rfl)) ?_; (try simp only [Act.put, List.setIfInBounds_toArray, List.set_cons_zero, List.set_cons_succ]))
      (refine wpD_take (i := 12) (v := _) (by simp only [List.getElem?_toArray, List.getElem?_cons_succ, List.getElem?_cons_zero]; rfl) (by kernel_rfl) (by kernel_rfl) (by kernel_rfl) (by rfl) (YS.of_value (by intro w' hSw; (try dsimp only at hSw); go_simp; first | done | with_reducible rfl)) ?_; (try simp only [Act.put, List.setIfInBounds_toArray, List.set_cons_zero, List.set_cons_succ]))
      (refine wpD_take (i := 13) (v := _) (by simp only [List.getElem?_toArray, List.getElem?_cons_succ, List.getElem?_cons_zero]; rfl) (by kernel_rfl) (by kernel_rfl) (by kernel_rfl) (by rfl) (YS.of_value (by intro w' hSw; (try dsimp only at hSw); go_simp; first | done | with_reducible rfl)) ?_; (try simp only [Act.put, List.setIfInBounds_toArray, List.set_cons_zero, List.set_cons_succ]))
      (refine wpD_take (i := 14) (v := _) (by simp only [List.getElem?_toArray, List.getElem?_cons_succ, List.getElem?_cons_zero]; rfl) (by kernel_rfl) (by kernel_rfl) (by kernel_rfl) (by rfl) (YS.of_value (by intro w' hSw; (try dsimp only at hSw); go_simp; first | done | with_reducible rfl)) ?_; (try simp only [Act.put, List.setIfInBounds_toArray, List.set_cons_zero, List.set_cons_succ]))
      (refine wpD_take (i := 15) (v := _) (by simp only [List.getElem?_toArray, List.getElem?_cons_succ, List.getElem?_cons_zero]; rfl) (by kernel_rfl) (by kernel_rfl) (by kernel_rfl) (by rfl) (YS.of_value (by intro w' hSw; (try dsimp only at hSw); go_simp; first | done | with_reducible rfl)) ?_; (try simp only [Act.put, List.setIfInBounds_toArray, List.set_cons_zero, List.set_cons_succ]))
      (refine wpD_take (i := 16) (v := _) (by simp only [List.getElem?_toArray, List.getElem?_cons_succ, List.getElem?_cons_zero]; rfl) (by kernel_rfl) (by kernel_rfl) (by kernel_rfl) (by rfl) (YS.of_value (by intro w' hSw; (try dsimp only at hSw); go_simp; first | done | with_reducible rfl)) ?_; (try simp only [Act.put, List.setIfInBounds_toArray, List.set_cons_zero, List.set_cons_succ]))
      (refine wpD_take (i := 17) (v := _) (by simp only [List.getElem?_toArray, List.getElem?_cons_succ, List.getElem?_cons_zero]; rfl) (by kernel_rfl) (by kernel_rfl) (by kernel_rfl) (by rfl) (YS.of_value (by intro w' hSw; (try dsimp only at hSw); go_simp; first | done | with_reducible rfl)) ?_; (try simp only [Act.put, List.setIfInBounds_toArray, List.set_cons_zero, List.set_cons_succ]))
      (refine wpD_take (i := 18) (v := _) (by simp only [List.getElem?_toArray, List.getElem?_cons_succ, List.getElem?_cons_zero]; rfl) (by kernel_rfl) (by kernel_rfl) (by kernel_rfl) (by rfl) (YS.of_value (by intro w' hSw; (try dsimp only at hSw); go_simp; first | done | with_reducible rfl)) ?_; (try simp only [Act.put, List.setIfInBounds_toArray, List.set_cons_zero, List.set_cons_succ]))
      (refine wpD_take (i := 19) (v := _) (by simp only [List.getElem?_toArray, List.getElem?_cons_succ, List.getElem?_cons_zero]; rfl) (by kernel_rfl) (by kernel_rfl) (by kernel_rfl) (by rfl) (YS.of_value (by intro w' hSw; (try dsimp only at hSw); go_simp; first | done | with_reducible rfl)) ?_; (try simp only [Act.put, List.setIfInBounds_toArray, List.set_cons_zero, List.set_cons_succ]))
      (refine wpD_take (i := 20) (v := _) (by simp only [List.getElem?_toArray, List.getElem?_cons_succ, List.getElem?_cons_zero]; rfl) (by kernel_rfl) (by kernel_rfl) (by kernel_rfl) (by rfl) (YS.of_value (by intro w' hSw; (try dsimp only at hSw); go_simp; first | done | with_reducible rfl)) ?_; (try simp only [Act.put, List.setIfInBounds_toArray, List.set_cons_zero, List.set_cons_succ]))
      (refine wpD_take (i := 21) (v := _) (by simp only [List.getElem?_toArray, List.getElem?_cons_succ, List.getElem?_cons_zero]; rfl) (by kernel_rfl) (by kernel_rfl) (by kernel_rfl) (by rfl) (YS.of_value (by intro w' hSw; (try dsimp only at hSw); go_simp; first | done | with_reducible rfl)) ?_; (try simp only [Act.put, List.setIfInBounds_toArray, List.set_cons_zero, List.set_cons_succ]))
      (refine wpD_take (i := 22) (v := _) (by simp only [List.getElem?_toArray, List.getElem?_cons_succ, List.getElem?_cons_zero]; rfl) (by kernel_rfl) (by kernel_rfl) (by kernel_rfl) (by rfl) (YS.of_value (by intro w' hSw; (try dsimp only at hSw); go_simp; first | done | with_reducible rfl)) ?_; (try simp only [Act.put, List.setIfInBounds_toArray, List.set_cons_zero, List.set_cons_succ]))
      (refine wpD_take (i := 23) (v := _) (by simp only [List.getElem?_toArray, List.getElem?_cons_succ, List.getElem?_cons_zero]; rfl) (by kernel_rfl) (by kernel_rfl) (by kernel_rfl) (by rfl) (YS.of_value (by intro w' hSw; (try dsimp only at hSw); go_simp; first | done | with_reducible rfl)) ?_; (try simp only [Act.put, List.setIfInBounds_toArray, List.set_cons_zero, List.set_cons_succ]))
      (refine wpD_take (i := 24) (v := _) (by simp only [List.getElem?_toArray, List.getElem?_cons_succ, List.getElem?_cons_zero]; rfl) (by kernel_rfl) (by kernel_rfl) (by kernel_rfl) (by rfl) (YS.of_value (by intro w' hSw; (try dsimp only at hSw); go_simp; first | done | with_reducible rfl)) ?_; (try simp only [Act.put, List.setIfInBounds_toArray, List.set_cons_zero, List.set_cons_succ]))
      (refine wpD_take (i := 25) (v := _) (by simp only [List.getElem?_toArray, List.getElem?_cons_succ, List.getElem?_cons_zero]; rfl) (by kernel_rfl) (by kernel_rfl) (by kernel_rfl) (by rfl) (YS.of_value (by intro w' hSw; (try dsimp only at hSw); go_simp; first | done | with_reducible rfl)) ?_; (try simp only [Act.put, List.setIfInBounds_toArray, List.set_cons_zero, List.set_cons_succ]))
      refine wpD_done (by kernel_rfl) ?_ _
      rintro _ rfl
      go_wp2_with fail
      exact ⟨⟨k + 1, by omega, by go_num, hBw.drew⟩, by simp [intOf]; omega⟩
    · obtain rfl : n = k := by omega
      have hE := split_12 A12 c12 _ _ au wr HAL.out (hbs.below hBw (Nat.le_refl _)) ha1 ha2
      rw [HS1.out, HS2.out] at hE
      clear hbs X11 XB
      go_wp2_with fail
      with_reducible refine hE.mono ?_
      rintro e _ ⟨rfl, rfl⟩
      go_wp2_with fail
      go_ret
      exact ⟨rfl, B11.trans (hBw.mono B11.size)⟩
theorem packetsLaw (l v m st po pr rd rp id ref org rec xmt tag : Int) (B : Option Addr) (n d : Nat) (L : Flds) (w : World) (h6 : 0 ≤ rd ∧ rd ≤ 4294967295) (h7 : 0 ≤ rp ∧ rp ≤ 4294967295) (h8 : 0 ≤ id ∧ id ≤ 4294967295) (h9 : 0 ≤ ref ∧ ref ≤ 18446744073709551615) (h10 : 0 ≤ org ∧ org ≤ 18446744073709551615) (h11 : 0 ≤ rec ∧ rec ≤ 18446744073709551615) (h12 : 0 ≤ xmt ∧ xmt ≤ 18446744073709551615) (ht0 : 0 ≤ tag) (ht1 : tag ≤ 18446744073709551615) (hl : L.length = n) (hX : Xs w w.heap.size B L) (hmd : n ≤ d) (hd : d ≤ 9223372036854775807) :
    Calls Try.prog 3 #[ntp l v m st po pr rd rp id ref org rec xmt, .slice B n d, .int .u64 tag] w fun e w' => e = .returned (.bool true) ∧ Below w.heap.size w w' := by
  by_cases hm : n ≤ 30
  · by_cases hk : nchk l v m st po pr = 0
    · by_cases he : apxE L = 0
      · exact pk_ok l v m st po pr rd rp id ref org rec xmt tag B n d L w hm hk h6 h7 h8 h9 h10 h11 h12 ht0 ht1 hl hX hmd hd he
      · exact pk_err l v m st po pr rd rp id ref org rec xmt tag B n d L w hm hk h6 h7 h8 h9 h10 h11 h12 hl hX hmd hd he
    · exact pk_bad l v m st po pr rd rp id ref org rec xmt tag B n d w hm (nchk_3 hk)
  · exact pk_long l v m st po pr rd rp id ref org rec xmt tag B n d w (by omega)
namespace lawPackets
set_option maxRecDepth 100000 in
theorem lifted (os : Os) (started : os.Started) (H : Type) (enc : TypeId × Value → H) :
    ReturnsInHanded {} Try.checked os 3 .any (Rows.topPacketsSpec.pre6 enc Try.prog Try.f3 Rows.topPacketsRow.domain false) (Rows.topPacketsSpec.post enc Try.prog Try.f3 false true false false) := by
  refine returnsInHanded_of_change_sized (C := Try.checked) own started (by kernel_rfl) Try.func3
    (ChangeSpec.witness6 (enc := enc) (C := Try.checked) false ⟨#[], #[.agg #[.int .i64 0, .int .i64 0, .int .i64 0, .int .i64 0, .int .i64 0, .int .i64 0, .int .u32 0, .int .u32 0, .int .u32 0, .int .u64 0, .int .u64 0, .int .u64 0, .int .u64 0], .slice none 0 0, .int .u64 0], []⟩ 8 (by kernel_rfl) (by kernel_rfl) (by kernel_rfl) (by kernel_rfl)) ?_
  intro W base args ds gs before hval0 hW hcnd hsz0 _
  have hval : ∀ (j : Nat) t v, Try.f3.params[j]? = some t → args[j]? = some v → Value.okWide Try.prog W .any base t v := hval0
  have hW' := hW
  obtain ⟨p, q, hA0, hV, rfl, hfz, hnd⟩ := hW
  have hA : DataW.TrodAll enc Try.prog W 0 (fun _ => true) true Try.f3.params.toList args.toList ds p := hA0
  have hsz : (DataW.weightsEach Try.prog (Try.f3.params.toList ++ Rows.topPacketsSpec.plain.varTypes Try.prog) (ds ++ gs)).all (· ≤ reachBytes) = true := hsz0
  rw [Try.params3] at hA hval hsz
  obtain ⟨rfl, rfl⟩ := trodVars_none hV
  obtain ⟨v0, v1, v2, d0, d1, d2, p0, p1, p2, rfl, rfl, rfl, h0, h1, h2⟩ := trodAll_three hA
  obtain ⟨l, v, m, st, po, pr, rd, rp, id, ref, org, rec, xmt, rfl, _, _, _, _, _, _, h6, h7, h8, h9, h10, h11, h12⟩ := open_ntp (hval 0 25 v0 rfl rfl) h0
  obtain ⟨B, n, d, L, rfl, hl, hX, hmd, hd, _, _⟩ := open_exts (hval 1 26 v1 rfl rfl) h1
  obtain ⟨tag, rfl, rfl, rfl, wf_tag⟩ := open_int Try.underlying23 (hval 2 23 v2 rfl rfl) h2
  refine (packetsLaw l v m st po pr rd rp id ref org rec xmt tag B n d L W h6 h7 h8 h9 h10 h11 h12 (bounds_u64 wf_tag).1 (bounds_u64 wf_tag).2 hl hX hmd hd).mono fun e W' ⟨he, hb⟩ => ?_
  subst he
  revert hb
  simp only [List.append_nil] at hW'
  intro hb
  exact ⟨_, rfl, law_post (tb := 4) laidOut Try.underlying4 rfl (by rw [Try.params3]; intro t ht; revert ht; revert t; exact of_decide_eq_true (by kernel_rfl)) rfl rfl rfl rfl hW' hb⟩
theorem over : Rows.topPacketsRow.holds Try.pinned (OpenSpec.ofChange Rows.topPacketsSpec) :=
  OpenClaim.holds_of_wide 3 Try.f3 rfl rfl rfl rfl rfl rfl rfl ⟨rfl, rfl, rfl, rfl, rfl⟩ rfl rfl rfl rfl rfl (by kernel_rfl) Try.func3 (by kernel_rfl)
    (of_decide_eq_true (by kernel_rfl)) (by unfold Func.isWrapper; first | (rw [if_pos (by decide +kernel)]; kernel_rfl) | (rw [if_neg (by decide +kernel)]; exact ⟨rfl, rfl⟩))
    (fun os started H enc _ => lifted os started H enc)
theorem proved : Rows.TopPacketsSaid :=
  over
#print axioms proved
end lawPackets
end Go.Proofs.Ytghcaplhanjgbaa
