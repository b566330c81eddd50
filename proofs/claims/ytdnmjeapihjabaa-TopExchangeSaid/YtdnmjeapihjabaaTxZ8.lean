/- Both replies in one sentence. The chapter's examples hold: the law's function awake returns true; the law's own comparison of fields. What ext.Find, server.Interval and the reference's Interval compute. What server.Interval and the reference's Interval compute. The first interval field of a list: what server.Interval and the reference's Interval compute. What the readers of package wire, and those of its reference, do. -/
import Derived.Test.YtdnmjeapihjabaaTxZ7
import Derived.Test.YtdnmjeapihjabaaTxZ2
namespace Go.Proofs.Ytdnmjeapihjabaa
open Go.RowKit
set_option linter.unusedSimpArgs false
set_option linter.unusedVariables false
set_option maxRecDepth 100000
end Go.Proofs.Ytdnmjeapihjabaa
namespace Go.Proofs.Ytdnmjeapihjabaa
open Go.RowKit
set_option linter.unusedSimpArgs false
set_option linter.unusedVariables false
set_option maxRecDepth 100000
theorem Blk.bs {w : World} {g : Nat} {t : TypeId} {l : List Int} (h : Blk w g t (l.map (Value.int .u8))) (hb : Byt l) : Bs w g (g + 1) (some ⟨g, 0, none⟩) l :=
  ⟨hb, fun hp => ⟨g, 0, rfl, Nat.le_refl _, by omega, fun k hk => by
    rw [Nat.zero_add]
    refine h.cell ?_
    rw [List.getElem?_map, List.getElem?_eq_getElem hk]
    unfold atB
    rw [List.getD_eq_getElem?_getD, List.getElem?_eq_getElem hk]
    rfl⟩⟩
theorem ex_reply (w : World) : Calls Try.prog 20 #[ntp 0 4 3 0 6 0 0 0 0 0 0 0 7, .int .u64 1, .int .u64 2, .int .u64 3, root 16 0 0 9, .int .i64 0, .int .i64 (-20)] w fun e w' => e = .returned (.tuple #[ntp 3 4 4 0 6 (-20) 0 0 9 3 7 1 2, .int .i64 0]) ∧ Below w.heap.size w w' :=
  reply_ok 0 4 3 0 6 0 0 0 0 0 0 0 7 1 2 3 16 0 0 9 0 (-20) w (by decide +kernel) (by decide +kernel)
abbrev exI : List Int := [255, 255, 255, 255, 255, 255, 255, 255, 0, 0, 0, 0, 0, 0, 1, 2]
theorem exI_byt : Byt exI := fun x hx => by simp [exI] at hx; omega
theorem ex_field (w : World) : Calls Try.prog 21 #[.agg (ivL (-1) 258).toArray] w fun e w' => ∃ g, e = .returned (.tuple #[exV 28929 (some ⟨g, 0, none⟩) 16 16, .int .i64 0]) ∧ Blk w' g 5 (exI.map (Value.int .u8)) ∧ w.heap.size ≤ g ∧ Below w.heap.size w w' := by
  have h := field_ok (-1) 258 w (by decide)
  rw [show bytesB 8 (u64 (-1)) ++ bytesB 8 (u64 258) = exI by decide +kernel] at h
  exact h
end Go.Proofs.Ytdnmjeapihjabaa
namespace Go.Proofs.Ytdnmjeapihjabaa
open Go.RowKit
set_option linter.unusedSimpArgs false
set_option linter.unusedVariables false
set_option maxRecDepth 100000
theorem Xf.open {w : World} {hi b o : Nat} {kd : Int} {dt : List Int} (h : Xf w hi b o kd dt) : ∃ A c, w.rangeAt b o [.int .i64 kd, .slice A dt.length c] ∧ Bs w 0 hi A dt ∧ dt.length ≤ c ∧ c ≤ 9223372036854775807 ∧ (A = none → dt.length = 0 ∧ c = 0) := by
  obtain ⟨A, c, c0, c1, hB, h3, h4, h5⟩ := h
  refine ⟨A, c, fun j v hv => ?_, hB, h3, h4, h5⟩
  match j with
  | 0 => simp at hv; rw [← hv]; exact c0
  | 1 => simp at hv; rw [← hv]; exact c1
  | j + 2 => simp at hv
def NoK (L : List (Int × List Int)) (kd : Int) (k : Nat) : Prop := ∀ j, j < k → kdL L j ≠ kd
set_option maxHeartbeats 4000000 in
theorem find_any (A : Option Addr) (c : Nat) (L : List (Int × List Int)) (n : Nat) (kd : Int) (w : World) (hn : L.length = n) (h : Xs w w.heap.size A L) (hnc : n ≤ c) (hc : c ≤ 9223372036854775807) (hsz : ∀ k, k < n → (dtL L k).length ≤ 140737488351232) :
    Calls Try.prog 33 #[.slice A n c, .int .i64 kd] w fun e w' => (e = .returned (.tuple #[.slice none 0 0, .bool false]) ∧ Hid (NoK L kd n) ∧ Below w.heap.size w w') ∨
      (∃ k A' c', e = .returned (.tuple #[.slice A' (dtL L k).length c', .bool true]) ∧ k < n ∧ kdL L k = kd ∧ Hid (NoK L kd k) ∧ Ow w' w.heap.size A' c' (dtL L k) ∧ Below w.heap.size w w') := by
  go_enter Try.func33, Try.ntmps33
  go_wp2
  go_loopw [10] (fun i wr => ∃ k : Nat, k ≤ n ∧ i = .int .i64 k ∧ Hid (NoK L kd k) ∧ Below w.heap.size w wr) (fun i _ => n - (intOf i).toNat)
  case atStart => exact ⟨0, by omega, rfl, fun j hj => by omega, Below.refl _ _⟩
  case round =>
    obtain ⟨k, hk, rfl, hN, hB⟩ := hrel
    by_cases hlt : k < n
    · obtain ⟨b, o, rfl, hbw, hx⟩ := (h.below hB (Nat.le_refl _)) (by omega)
      obtain ⟨Ak, ck, hrg, hBk, hlc, hcm, hno⟩ := (hx k (by omega)).open
      have hi0 : (0 : Int) ≤ k := by omega
      have hi1 : (k : Int) < n := by omega
      have hs1 := hsz k hlt
      obtain ⟨K, hK⟩ : ∃ K, K = kdL L k := ⟨_, rfl⟩
      rw [← hK] at hrg
      have HK := Lib.hid hK
      clear hx hK
      by_cases he : K = kd
      · have he' : (K == kd) = true := by simpa using he
        have HE := Lib.hid he
        clear he
        go_wp2_with (first
          | (refine wpl_loadr (by rfl) 71 _ (by rfl) b (o + k * 2) (by rfl) _ hrg _ Try.underlying71 rfl _ sizeExt (by rfl) ?_)
          | (refine wpl_alloc (by rfl) 71 (by rfl) (.agg (exL 0 none 0 0).toArray) (exL 0 none 0 0) zeroExt rfl ?_; intro wa Ja sa ba)
          | (refine wpl_store (by rfl) 71 _ _ (by rfl) wr.heap.size (by rfl) _ (by rfl) (exL K Ak (dtL L k).length ck) rfl 71 _ Ja (by rfl) _ sizeExt (by rfl) (by simp [Value.oneCell']) ?_; intro wb Jb sb gb)
          | (refine wpl_loadf (by rfl) 3 _ (by rfl) wr.heap.size 0 (by rfl) _ _ Jb _ rfl _ Try.underlying3 rfl ?_)
          | (refine wpl_loadf (by rfl) 39 _ (by rfl) wr.heap.size 1 (by rfl) _ _ Jb _ rfl _ Try.underlying39 rfl ?_))
        have hBb := ((hBk.below ba (by have := hB.size; omega)).grown gb (by have := hB.size; omega) (by intro g hg; simp at hg; have := hB.size; omega))
        have hE := clone_any Ak (dtL L k).length ck 0 w.heap.size (dtL L k) wb rfl hBb (by have := hB.size; omega) (by omega) hno
        with_reducible refine hE.mono ?_
        rintro e wc ⟨A', c', rfl, hO, hz, bc⟩
        have Bc := ((hB.trans (ba.mono hB.size)).trans (gb.below (by have := hB.size; omega) hB.size)).trans (bc.mono (by have := hB.size; omega))
        go_wp2
        go_ret2
        exact .inr ⟨k, A', c', rfl, hlt, HK.out ▸ HE.out, hN, ⟨hO.1, by
          obtain ⟨h1, h2⟩ := hO.2
          refine ⟨h1, ?_⟩
          rcases h2 with h2 | ⟨g, cap, cur, e1, e2, e3⟩
          · exact .inl h2
          · exact .inr ⟨g, cap, cur, e1, by have := hB.size; omega, e3⟩⟩, Bc⟩
      · have he' : (K == kd) = false := by simpa using he
        have hN' : Hid (NoK L kd (k + 1)) := fun j hj => by
          rcases Nat.lt_or_ge j k with h1 | h1
          · exact hN.out j h1
          · obtain rfl : j = k := by omega
            exact HK.out ▸ he
        clear he
        go_wp2_with (first
          | (refine wpl_loadr (by rfl) 71 _ (by rfl) b (o + k * 2) (by rfl) _ hrg _ Try.underlying71 rfl _ sizeExt (by rfl) ?_)
          | (refine wpl_alloc (by rfl) 71 (by rfl) (.agg (exL 0 none 0 0).toArray) (exL 0 none 0 0) zeroExt rfl ?_; intro wa Ja sa ba)
          | (refine wpl_store (by rfl) 71 _ _ (by rfl) wr.heap.size (by rfl) _ (by rfl) (exL K Ak (dtL L k).length ck) rfl 71 _ Ja (by rfl) _ sizeExt (by rfl) (by simp [Value.oneCell']) ?_; intro wb Jb sb gb)
          | (refine wpl_loadf (by rfl) 3 _ (by rfl) wr.heap.size 0 (by rfl) _ _ Jb _ rfl _ Try.underlying3 rfl ?_)
          )
        exact ⟨⟨k + 1, by omega, by go_num, hN', (hB.trans (ba.mono hB.size)).trans (gb.below (by have := hB.size; omega) hB.size)⟩, by simp [intOf]; omega⟩
    · obtain rfl : k = n := by omega
      go_wp2
      go_ret2
      exact .inl ⟨rfl, hN, hB⟩
end Go.Proofs.Ytdnmjeapihjabaa
namespace Go.Proofs.Ytdnmjeapihjabaa
open Go.RowKit
set_option linter.unusedSimpArgs false
set_option linter.unusedVariables false
set_option maxRecDepth 100000
def ivLo (d : List Int) : Int := i64 (numB (d.take 8))
def ivHi (d : List Int) : Int := i64 (numB (d.drop 8))
/-- the error of an interval's bytes, and its ends -/
def irE (d : List Int) : Int := if d.length = 16 then (if ivB (ivLo d) (ivHi d) = true then 0 else 2) else 7
def irA (d : List Int) : Int := if irE d = 0 then ivLo d else 0
def irB (d : List Int) : Int := if irE d = 0 then ivHi d else 0
theorem irE_cases (d : List Int) : (d.length ≠ 16 ∧ irE d = 7 ∧ irA d = 0 ∧ irB d = 0) ∨ (d.length = 16 ∧ ivB (ivLo d) (ivHi d) = false ∧ irE d = 2 ∧ irA d = 0 ∧ irB d = 0) ∨ (d.length = 16 ∧ ivB (ivLo d) (ivHi d) = true ∧ irE d = 0 ∧ irA d = ivLo d ∧ irB d = ivHi d) := by
  unfold irA irB irE
  by_cases h : d.length = 16
  · cases h2 : ivB (ivLo d) (ivHi d) <;> simp [h]
  · simp [h]
end Go.Proofs.Ytdnmjeapihjabaa
namespace Go.Proofs.Ytdnmjeapihjabaa
open Go.RowKit
set_option linter.unusedSimpArgs false
set_option linter.unusedVariables false
set_option maxRecDepth 100000
theorem first_or (L : List (Int × List Int)) (kd : Int) : ∀ n : Nat, NoK L kd n ∨ ∃ k, k < n ∧ kdL L k = kd ∧ NoK L kd k
  | 0 => .inl fun j hj => by omega
  | n + 1 => by
    rcases first_or L kd n with h | ⟨k, h1, h2, h3⟩
    · by_cases e : kdL L n = kd
      · exact .inr ⟨n, by omega, e, h⟩
      · exact .inl fun j hj => by
          rcases Nat.lt_or_ge j n with h1 | h1
          · exact h j h1
          · obtain rfl : j = n := by omega
            exact e
    · exact .inr ⟨k, by omega, h2, h3⟩
theorem first_one {L : List (Int × List Int)} {kd : Int} {k k' : Nat} (h1 : kdL L k = kd) (h2 : NoK L kd k) (h1' : kdL L k' = kd) (h2' : NoK L kd k') : k = k' := by
  rcases Nat.lt_trichotomy k k' with h | h | h
  · exact absurd h1 (h2' k h)
  · exact h
  · exact absurd h1' (h2 k' h)
theorem find_none (A : Option Addr) (c : Nat) (L : List (Int × List Int)) (n : Nat) (kd : Int) (w : World) (hn : L.length = n) (h : Xs w w.heap.size A L) (hnc : n ≤ c) (hc : c ≤ 9223372036854775807) (hsz : ∀ k, k < n → (dtL L k).length ≤ 140737488351232) (hN : NoK L kd n) :
    Calls Try.prog 33 #[.slice A n c, .int .i64 kd] w fun e w' => e = .returned (.tuple #[.slice none 0 0, .bool false]) ∧ Below w.heap.size w w' :=
  (find_any A c L n kd w hn h hnc hc hsz).mono fun e w' hh => by
    rcases hh with ⟨h1, _, h2⟩ | ⟨k, _, _, _, h1, h2, _⟩
    · exact ⟨h1, h2⟩
    · exact absurd h2 (hN k h1)
theorem find_some (A : Option Addr) (c : Nat) (L : List (Int × List Int)) (n k : Nat) (kd : Int) (w : World) (hn : L.length = n) (h : Xs w w.heap.size A L) (hnc : n ≤ c) (hc : c ≤ 9223372036854775807) (hsz : ∀ k, k < n → (dtL L k).length ≤ 140737488351232) (hk : k < n) (he : kdL L k = kd) (hN : NoK L kd k) :
    Calls Try.prog 33 #[.slice A n c, .int .i64 kd] w fun e w' => ∃ A' c', e = .returned (.tuple #[.slice A' (dtL L k).length c', .bool true]) ∧ Ow w' w.heap.size A' c' (dtL L k) ∧ Below w.heap.size w w' :=
  (find_any A c L n kd w hn h hnc hc hsz).mono fun e w' hh => by
    rcases hh with ⟨_, h2, _⟩ | ⟨k', A', c', h1, h2, h3, h4, h5, h6⟩
    · exact absurd he (h2.out k hk)
    · obtain rfl := first_one he hN h3 h4.out
      exact ⟨A', c', h1, h5, h6⟩
/-! ### the reference -/
/-! ### the program -/
set_option maxHeartbeats 4000000 in
theorem interval_none (A : Option Addr) (c : Nat) (L : List (Int × List Int)) (n : Nat) (w : World) (hn : L.length = n) (h : Xs w w.heap.size A L) (hnc : n ≤ c) (hc : c ≤ 9223372036854775807) (hsz : ∀ k, k < n → (dtL L k).length ≤ 140737488351232) (hN : NoK L 28929 n) :
    Calls Try.prog 11 #[.slice A n c] w fun e w' => e = .returned (.tuple #[.agg (ivL 0 0).toArray, .int .i64 11]) ∧ Below w.heap.size w w' := by
  have hF := fun W H => find_none A c L n 28929 W hn H hnc hc hsz hN
  clear hN hsz
  go_enter Try.func11, Try.ntmps11
  go_wp2_with (first
    | (refine wpl_alloc (by rfl) 38 (by rfl) (.agg (ivL 0 0).toArray) (ivL 0 0) zeroIv rfl ?_; intro w1 J1 s1 b1)
    | (go_at_call 33; ((with_reducible refine (hF _ ((h.below b1 (Nat.le_refl _)).wide (by omega))).mono ?_); rintro e w2 ⟨rfl, b2⟩; (have J2 := J1.below b2 (by omega)); (have z2 := b2.size)))
      | (refine wpl_store (by rfl) 38 _ _ (by rfl) w.heap.size (by rfl) _ (by rfl) _ rfl 38 _ J2 (by rfl) _ sizeIv (by rfl) (by simp [Value.oneCell']) ?_; intro w3 J3 s3 g3))
  obtain ⟨k0, k1⟩ := cells2 J3
  refine bodyPost_ret (v := .tuple #[.agg (ivL 0 0).toArray, .int .i64 11]) (by simp [results, Try.results11, go_sem, k0, k1]) rfl ?_
  exact ⟨rfl, (b1.trans (b2.mono (by omega))).trans (g3.below (by omega) (by omega))⟩
set_option maxHeartbeats 4000000 in
theorem interval_some (A : Option Addr) (c : Nat) (L : List (Int × List Int)) (n j : Nat) (w : World) (hn : L.length = n) (h : Xs w w.heap.size A L) (hnc : n ≤ c) (hc : c ≤ 9223372036854775807) (hsz : ∀ k, k < n → (dtL L k).length ≤ 140737488351232) (hj : j < n) (hjk : kdL L j = 28929) (hN : NoK L 28929 j) :
    Calls Try.prog 11 #[.slice A n c] w fun e w' => e = .returned (.tuple #[.agg (ivL (irA (dtL L j)) (irB (dtL L j))).toArray, .int .i64 (irE (dtL L j))]) ∧ Below w.heap.size w w' := by
  have hF := fun W H => find_some A c L n j 28929 W hn H hnc hc hsz hj hjk hN
  generalize dtL L j = d at hF ⊢
  clear hN hsz hjk hj
  rcases irE_cases d with ⟨h1, h2, h3, h4⟩ | ⟨h1, h2, h3, h4, h5⟩ | ⟨h1, h2, h3, h4, h5⟩
  · rw [h2, h3, h4]
    have hne : ((d.length : Int) != 16) = true := by simp; omega
    clear h1 h2 h3 h4
    go_enter Try.func11, Try.ntmps11
    go_wp2_with (first
      | (refine wpl_alloc (by rfl) 38 (by rfl) (.agg (ivL 0 0).toArray) (ivL 0 0) zeroIv rfl ?_; intro w1 J1 s1 b1)
      | (go_at_call 33; ((with_reducible refine (hF _ ((h.below b1 (Nat.le_refl _)).wide (by omega))).mono ?_); rintro e w2 ⟨A2, c2, rfl, O2, b2⟩; (have J2 := J1.below b2 (by omega)); (have z2 := b2.size)))
          | (refine wpl_store (by rfl) 38 _ _ (by rfl) w.heap.size (by rfl) _ (by rfl) _ rfl 38 _ J2 (by rfl) _ sizeIv (by rfl) (by simp [Value.oneCell']) ?_; intro w3 J3 s3 g3))
    obtain ⟨k0, k1⟩ := cells2 J3
    refine bodyPost_ret (v := .tuple #[.agg (ivL 0 0).toArray, .int .i64 7]) (by simp [results, Try.results11, go_sem, k0, k1]) rfl ?_
    exact ⟨rfl, (b1.trans (b2.mono (by omega))).trans (g3.below (by omega) (by omega))⟩
  all_goals
    rw [h3, h4, h5]
    have hI := fun W => isInterval_any (ivLo d) (ivHi d) W
    simp only [h2] at hI
    rw [h1] at hF
    clear h2 h3 h4 h5
    go_enter Try.func11, Try.ntmps11
    go_wp2_with (first
      | (refine wpl_alloc (by rfl) 38 (by rfl) (.agg (ivL 0 0).toArray) (ivL 0 0) zeroIv rfl ?_; intro w1 J1 s1 b1)
      | (go_at_call 33; ((with_reducible refine (hF _ ((h.below b1 (Nat.le_refl _)).wide (by omega))).mono ?_); rintro e w2 ⟨A2, c2, rfl, O2, b2⟩; (have J2 := J1.below b2 (by omega)); (have z2 := b2.size))))
    have hcl := O2.cap_le
    have hcm2 := O2.cap_max
    rcases O2.form with ⟨_, e2, _⟩ | ⟨g, rfl, hg1, hg2⟩
    · rw [e2] at h1; simp at h1
    have hc16 : (16 : Int) ≤ c2 := by omega
    have hc8 : ¬ c2 = 8 := by omega
    have hc8' : (8 : Int) ≤ c2 := by omega
    have hb2 := O2.bs
    have hG1 : ∀ W C, Kp w2 [] W → Calls Try.prog 34 #[.slice (some ⟨g, 0, none⟩) 8 C] W fun e w' => e = .returned (.int .i64 (ivLo d)) ∧ W = w' := fun W C hK =>
      sget_any (some ⟨g, 0, none⟩) 8 C _ _ (d.take 8) W (by rw [List.length_take, h1]; rfl) ((hK.bs hb2 (Nat.le_refl _) (by simp)).take 8) (by rw [List.length_take]; omega)
    have hG2 : ∀ W C, Kp w2 [] W → Calls Try.prog 34 #[.slice (some ⟨g, 8, none⟩) 8 C] W fun e w' => e = .returned (.int .i64 (ivHi d)) ∧ W = w' := fun W C hK =>
      sget_any (some ⟨g, 8, none⟩) 8 C _ _ (d.drop 8) W (by rw [List.length_drop, h1]) (by have := (hK.bs hb2 (Nat.le_refl _) (by simp)).dropm 8; simpa [ofAdd] using this) (by rw [List.length_drop]; omega)
    have B2 := b1.trans (b2.mono (by omega))
    have K0 : Kp w2 [] w2.drew := (Kp.refl w2 []).drew
    clear hF h O2 b1 b2 hb2
    go_region_held3 (fun w' => Kp w2 [] w') ((repeat (with_reducible first | (refine Kp.set ?_ ?_; rotate_left; (with_reducible first | exact Or.inl (Nat.le_refl _) | exact Or.inr (List.mem_cons_self ..) | (refine Or.inl ?_; assumption) | (refine Or.inl (Kp.size ?_); assumption))) | refine Kp.drew ?_ | refine Kp.alloc _ ?_ | assumption | exact Kp.refl _ _ | exact Kp.belowS hb (by assumption) | exact Kp.but hg (by assumption) (Or.inr (List.mem_cons_self ..))))) (first
      | (go_at_call 34; ((with_reducible refine (hG1 _ _ (by assumption)).mono ?_); rintro e' wq ⟨rfl, rfl⟩))
      | (go_at_call 34; ((with_reducible refine (hG2 _ _ (by assumption)).mono ?_); rintro e' wq ⟨rfl, rfl⟩)))
    all_goals
      obtain ⟨W, hW⟩ : ∃ W, (w2.alloc (.cells #[.int .i64 (ivLo d), .int .i64 (ivHi d)] 38)).drew = W := ⟨_, rfl⟩
      have J3 : Blk W w2.heap.size 38 (ivL (ivLo d) (ivHi d)) := by rw [← hW]; exact (Blk.new w2 _ _ _ rfl).drew
      have K3 : Kp w2 [] W := by rw [← hW]; exact ((Kp.refl w2 []).alloc _).drew
      rw [hW]
      have J4 := K3.blk J2 (by simp)
      have B3 := K3.toBelow B2 (by omega) (by simp)
      have zW := K3.size
      have zJ := J3.lt
      clear hW K3 K0 hG1 hG2 J2 B2
      go_wp2_with (first
        | (refine wpl_load (by rfl) 38 _ (by rfl) w2.heap.size (by rfl) 38 _ J3 _ Try.underlying38 rfl _ sizeIv (by rfl) ?_)
        | (go_at_call 35; ((with_reducible refine (hI _).mono ?_); rintro e w4 ⟨rfl, b4⟩; (have J5 := J3.below b4 zJ); (have J6 := J4.below b4 (by omega)); (have z4 := b4.size)))
        | (refine wpl_load (by rfl) 38 _ (by rfl) w2.heap.size (by rfl) 38 _ J5 _ Try.underlying38 rfl _ sizeIv (by rfl) ?_)
        | (refine wpl_store (by rfl) 38 _ _ (by rfl) w.heap.size (by rfl) _ (by rfl) _ rfl 38 _ J6 (by rfl) _ sizeIv (by rfl) (by simp [Value.oneCell']) ?_; intro w5 J7 s7 g7))
      obtain ⟨k0, k1⟩ := cells2 J7
      first
        | (refine bodyPost_ret (v := .tuple #[.agg (ivL 0 0).toArray, .int .i64 2]) (by simp [results, Try.results11, go_sem, k0, k1]) rfl ?_; exact ⟨rfl, (B3.trans (b4.mono (by omega))).trans (g7.below (by omega) (by omega))⟩)
        | (refine bodyPost_ret (v := .tuple #[.agg (ivL (ivLo d) (ivHi d)).toArray, .int .i64 0]) (by simp [results, Try.results11, go_sem, k0, k1]) rfl ?_; exact ⟨rfl, (B3.trans (b4.mono (by omega))).trans (g7.below (by omega) (by omega))⟩)
end Go.Proofs.Ytdnmjeapihjabaa
namespace Go.Proofs.Ytdnmjeapihjabaa
open Go.RowKit
set_option linter.unusedSimpArgs false
set_option linter.unusedVariables false
set_option maxRecDepth 100000
/-- a reader: its struct is block g, its bytes lie from lo on and below g -/
def Rd (w : World) (lo g : Nat) (l : List Int) (e : Int) : Prop :=
  ∃ A c, w.cell? ⟨g, 0, none⟩ = some (.slice A l.length c) ∧ w.cell? ⟨g, 1, none⟩ = some (.int .i64 e) ∧ (∀ o, w.frozen? ⟨g, o, none⟩ = false) ∧ Bs w lo g A l ∧ l.length ≤ c ∧ c ≤ 9223372036854775807 ∧ lo ≤ g ∧ g < w.heap.size
section
variable {w w' : World} {lo g : Nat} {l : List Int} {e : Int}
theorem Rd.lt (h : Rd w lo g l e) : g < w.heap.size := by obtain ⟨_, _, _, _, _, _, _, _, _, h⟩ := h; exact h
theorem Rd.len (h : Rd w lo g l e) : l.length ≤ 9223372036854775807 := by obtain ⟨_, _, _, _, _, _, h1, h2, _⟩ := h; omega
theorem Rd.byt (h : Rd w lo g l e) : Byt l := by obtain ⟨_, _, _, _, _, h, _⟩ := h; exact h.byt
theorem Rd.keep (h : Rd w lo g l e) (hk : ∀ b, lo ≤ b → b ≤ g → w'.heap[b]? = w.heap[b]?) (hs : w.heap.size ≤ w'.heap.size) : Rd w' lo g l e := by
  obtain ⟨A, c, h0, h1, hf, hB, hlc, hcm, hlo, hg⟩ := h
  have hg' := hk g hlo (Nat.le_refl _)
  refine ⟨A, c, (World.cell?_of_block hg').trans h0, (World.cell?_of_block hg').trans h1, fun o => (World.frozen?_of_block hg').trans (hf o), hB.keep fun b o h1 h2 => World.cell?_of_block (hk b h1 (by omega)), hlc, hcm, hlo, by omega⟩
theorem Rd.below {B : Nat} (h : Rd w lo g l e) (hb : Below B w w') (hg : g < B) : Rd w' lo g l e := h.keep (fun b _ h2 => hb.block b (by omega)) hb.size
theorem Rd.grown {row : Option Nat} (h : Rd w lo g l e) (hb : w.grownBy w' row) (hr : ∀ r, row = some r → r < lo ∨ g < r) : Rd w' lo g l e :=
  h.keep (fun b h1 h2 => hb.block b (by have := h.lt; omega) (fun e => by have := hr _ e.symm; omega)) hb.size
end
theorem Rd.new (w : World) {lo c : Nat} {A : Option Addr} {l : List Int} (t : TypeId) (h : Bs w lo w.heap.size A l) (hlc : l.length ≤ c) (hcm : c ≤ 9223372036854775807) (hlo : lo ≤ w.heap.size) :
    Rd (w.alloc (.cells #[.slice A l.length c, .int .i64 0] t)) lo w.heap.size l 0 := by
  have hb := heap_alloc_new w (.cells #[.slice A l.length c, .int .i64 0] t)
  refine ⟨A, c, cell_of_row _ _ 0 _ _ _ hb, cell_of_row _ _ 1 _ _ _ hb, fun o => by unfold World.frozen?; rw [hb]; simp, h.alloc (Nat.le_refl _) _, hlc, hcm, hlo, by simp⟩
theorem Ow.setlow {w : World} {lo c : Nat} {A : Option Addr} {l : List Int} (h : Ow w lo A c l) {p : Addr} (hp : p.block < lo) (u : Value) : Ow (w.setCell p u) lo A c l := ⟨h.1, ownsRow_setCell_below h.2 hp u⟩
def tkOk (l : List Int) (e n : Int) (v : Bool) : Bool := decide (e = 0) && v && decide (n ≤ l.length)
def tkL (l : List Int) (e n : Int) (v : Bool) : List Int := if tkOk l e n v then l.take n.toNat else []
def tkR (l : List Int) (e n : Int) (v : Bool) : List Int := if tkOk l e n v then l.drop n.toNat else l
def tkE (l : List Int) (e n : Int) (v : Bool) : Int := if e ≠ 0 then e else if v then (if l.length < n then 5 else 0) else 2
set_option maxHeartbeats 1000000 in
theorem newReader_any (A : Option Addr) (nl c lo hi : Nat) (l : List Int) (w : World) (hnl : l.length = nl) (h : Bs w lo hi A l) (hh : hi ≤ w.heap.size) (hm : nl ≤ 140737488355328) :
    Calls Try.prog 25 #[.slice A nl c] w fun r w' => ∃ g, r = .returned (.pointer (some ⟨g, 0, none⟩)) ∧ Rd w' w.heap.size g l 0 ∧ g + 1 = w'.heap.size ∧ Below w.heap.size w w' := by
  subst hnl
  have hmk := fun W => makeU8 .i64 .i64 l.length (by omega) W
  have hO1 := Ow.made w l.length (by omega)
  have hB1 : Bs (w.alloc (.cells (madeCells #[.int .u8 0] l.length) 5)) lo hi A l := h.alloc hh _
  go_enter Try.func25, Try.ntmps25
  go_wp2_with (first | (with_reducible refine wpList_copy_bs rfl (.tmp 7) (.tmp 8) rfl w.heap.size l.length l.length l.length c _ rfl rfl (by simp) rfl (by omega) hO1 hB1 ?_; intro w1 hO hg hz))
  simp only [List.drop_replicate, Nat.sub_self, List.replicate_zero, List.append_nil] at hO
  simp only [World.size_alloc] at hz
  have hR := Rd.new w1 111 (hO.bs.wide (Nat.le_refl _) (Nat.le_refl _)) (Nat.le_refl _) (by omega) (by omega)
  rw [hz] at hR
  go_ret
  refine ⟨_, rfl, hR, by simp [hz], Below.alloc (Below.trans ((Below.refl _ w).alloc (Nat.le_refl _) _) (below_of_grown hg (by simp) (by simp))) (by omega) _⟩
theorem tk_no {l : List Int} {e n : Int} {v : Bool} (h : tkOk l e n v = false) : tkL l e n v = [] ∧ tkR l e n v = l := by simp [tkL, tkR, h]
theorem tk_yes {l : List Int} {e n : Int} {v : Bool} (h : tkOk l e n v = true) : tkL l e n v = l.take n.toNat ∧ tkR l e n v = l.drop n.toNat := by simp [tkL, tkR, h]
theorem Rd.err {w : World} {lo g : Nat} {l : List Int} {e : Int} (h : Rd w lo g l e) (e' : Int) : Rd (w.setCell ⟨g, 1, none⟩ (.int .i64 e')) lo g l e' := by
  obtain ⟨A, c, h0, h1, hf, hB, hlc, hcm, hlo, hg⟩ := h
  refine ⟨A, c, (World.cell?_setCell_other w _ _ _ (by simp)).trans h0, World.cell?_setCell_same w _ _ h1, fun o => by rw [World.frozen?_setCell]; exact hf o, hB.setCell (by simp) _, hlc, hcm, hlo, by simpa [World.setCell] using hg⟩
theorem Rd.rest {w : World} {lo g : Nat} {l l' : List Int} {e : Int} (h : Rd w lo g l e) {A : Option Addr} {n c : Nat} (hB : Bs w lo g A l') (hn : l'.length = n) (hlc : n ≤ c) (hcm : c ≤ 9223372036854775807) : Rd (w.setCell ⟨g, 0, none⟩ (.slice A n c)) lo g l' e := by
  subst hn
  obtain ⟨A', c', h0, h1, hf, _, _, _, hlo, hg⟩ := h
  refine ⟨A, c, World.cell?_setCell_same w _ _ h0, (World.cell?_setCell_other w _ _ _ (by simp)).trans h1, fun o => by rw [World.frozen?_setCell]; exact hf o, hB.setCell (by simp) _, hlc, hcm, hlo, by simpa [World.setCell] using hg⟩
theorem but_set {w : World} {g i : Nat} (u : Value) : w.grownBy (w.setCell ⟨g, i, none⟩ u) (some g) := ⟨rfl, rfl, rfl, by simp [World.setCell], fun k _ hk => Below.heap_setCell _ _ _ _ (fun e => hk (by rw [e]))⟩
abbrev rp (g : Nat) : Value := .pointer (some ⟨g, 0, none⟩)
/-- what a call of take leaves -/
def TkPost (lo g : Nat) (L R : List Int) (E : Int) (w : World) (r : Ending) (w' : World) : Prop :=
  ∃ A c, r = .returned (.slice A L.length c) ∧ Bs w' lo g A L ∧ L.length ≤ c ∧ Rd w' lo g R E ∧ But g w w' ∧ w'.heap.size = w.heap.size
set_option maxHeartbeats 2000000 in
theorem take_any (lo g : Nat) (l : List Int) (e n : Int) (v : Bool) (w : World) (hR : Rd w lo g l e) (hv : v = true → 0 ≤ n) :
    Calls Try.prog 55 #[rp g, .int .i64 n, .bool v] w (TkPost lo g (tkL l e n v) (tkR l e n v) (tkE l e n v) w) := by
  obtain ⟨A, c, h0, h1, hf, hB, hlc, hcm, hlo, hg⟩ := id hR
  by_cases he : e = 0
  · subst he
    cases v with
    | true =>
      have h2 := hv rfl
      by_cases hn : n ≤ l.length
      · have hok : tkOk l 0 n true = true := by simp [tkOk, hn]
        have hE : tkE l 0 n true = 0 := by simp [tkE]; omega
        obtain ⟨m, rfl⟩ : ∃ m : Nat, n = m := ⟨n.toNat, by omega⟩
        rw [(tk_yes hok).1, (tk_yes hok).2, hE, Int.toNat_natCast]
        clear hok hE
        go_enter Try.func55, Try.ntmps55
        have hlen : (l.take m).length = m := by rw [List.length_take]; omega
        go_wp2
        · obtain hm : l.length = m := by omega
          go_ret
          refine ⟨A, m, by rw [hlen]; rfl, (hB.take m).setCell (by simp) _, by omega, hR.rest ?_ (by rw [List.length_drop]) (by omega) (by omega), but_set _, by simp [World.setCell]⟩
          rw [List.drop_eq_nil_of_le (by omega)]; exact Bs.nil
        · go_ret
          exact ⟨A, c, by rw [hlen]; rfl, (hB.take m).setCell (by simp) _, by omega, hR.rest (hB.dropm m) (by rw [List.length_drop]) (by omega) (by omega), but_set _, by simp [World.setCell]⟩
      · have hok : tkOk l 0 n true = false := by simp [tkOk, hn]
        have hE : tkE l 0 n true = 5 := by simp [tkE]; omega
        rw [(tk_no hok).1, (tk_no hok).2, hE]
        clear hok hE
        go_enter Try.func55, Try.ntmps55
        go_wp2
        go_ret
        exact ⟨none, 0, rfl, Bs.nil, by simp, hR.err 5, but_set _, by simp [World.setCell]⟩
    | false =>
      have hok : tkOk l 0 n false = false := by simp [tkOk]
      have hE : tkE l 0 n false = 2 := by simp [tkE]
      rw [(tk_no hok).1, (tk_no hok).2, hE]
      clear hok hE
      go_enter Try.func55, Try.ntmps55
      go_wp2
      go_ret
      exact ⟨none, 0, rfl, Bs.nil, by simp, hR.err 2, but_set _, by simp [World.setCell]⟩
  · have hok : tkOk l e n v = false := by simp [tkOk, he]
    have hE : tkE l e n v = e := by simp [tkE, he]
    have he' : (e != 0) = true := by simpa using he
    rw [(tk_no hok).1, (tk_no hok).2, hE]
    clear hok hE
    go_enter Try.func55, Try.ntmps55
    go_wp2
    go_ret
    exact ⟨none, 0, rfl, Bs.nil, by simp, hR, World.grownBy.refl w _, rfl⟩
def szB (s : Int) : Bool := decide (1 ≤ s ∧ s ≤ 8)
def nnB (s : Int) : Bool := decide (0 ≤ s)
theorem szB_nn {s : Int} (h : szB s = true) : 0 ≤ s := by simp [szB] at h; omega
theorem nnB_nn {s : Int} (h : nnB s = true) : 0 ≤ s := by simpa [nnB] using h
theorem sz_cases (s : Int) : (1 ≤ s ∧ s ≤ 8 ∧ szB s = true ∧ decide (1 ≤ s) = true ∧ decide (s ≤ 8) = true) ∨ (1 ≤ s ∧ 8 < s ∧ szB s = false ∧ decide (1 ≤ s) = true ∧ decide (s ≤ 8) = false) ∨ (s < 1 ∧ s ≤ 8 ∧ szB s = false ∧ decide (1 ≤ s) = false ∧ decide (s ≤ 8) = true) := by
  unfold szB
  by_cases h1 : 1 ≤ s
  · by_cases h2 : s ≤ 8
    · exact .inl ⟨h1, h2, decide_eq_true ⟨h1, h2⟩, decide_eq_true h1, decide_eq_true h2⟩
    · exact .inr (.inl ⟨h1, by omega, decide_eq_false (by omega), decide_eq_true h1, decide_eq_false h2⟩)
  · exact .inr (.inr ⟨by omega, by omega, decide_eq_false (by omega), decide_eq_false h1, decide_eq_true (by omega)⟩)
theorem sized_b (s : Int) (w : World) : Calls Try.prog 56 #[.int .i64 s] w fun e w' => e = .returned (.bool (szB s)) ∧ w = w' := sized_any s w
/-- what a call of a reader leaves that returns v -/
def RPost (v : Value) (lo g : Nat) (R : List Int) (E : Int) (w : World) (r : Ending) (w' : World) : Prop :=
  r = .returned v ∧ Rd w' lo g R E ∧ But g w w' ∧ w.heap.size ≤ w'.heap.size
/-- what a call of a reader leaves that returns the bytes L in new memory -/
def BPost (L : List Int) (lo g : Nat) (R : List Int) (E : Int) (w : World) (r : Ending) (w' : World) : Prop :=
  ∃ A c, r = .returned (.slice A L.length c) ∧ Ow w' w.heap.size A c L ∧ Rd w' lo g R E ∧ But g w w' ∧ w.heap.size ≤ w'.heap.size
theorem tkL_len (l : List Int) (e n : Int) (v : Bool) : (tkL l e n v).length ≤ l.length := by unfold tkL; split <;> simp <;> omega
theorem tkL_byt {l : List Int} (h : Byt l) (e n : Int) (v : Bool) : Byt (tkL l e n v) := by unfold tkL; split; exact h.take _; exact Byt.nil
theorem tkR_byt {l : List Int} (h : Byt l) (e n : Int) (v : Bool) : Byt (tkR l e n v) := by unfold tkR; split; exact h.drop _; exact h
/-- the signed number whose bytes are L, two's complement -/
def intB (L : List Int) : Int := if L.length = 0 then 0 else if 2 * numB L < 256 ^ L.length then numB L else numB L - 256 ^ L.length
theorem tkL_sz (l : List Int) (e s : Int) : (tkL l e s (szB s)).length = 0 ∨ (1 ≤ (tkL l e s (szB s)).length ∧ (tkL l e s (szB s)).length ≤ 8) := by
  unfold tkL tkOk szB; split <;> simp_all <;> omega
set_option maxHeartbeats 1000000 in
theorem uint_any (lo g : Nat) (l : List Int) (e s : Int) (w : World) (hR : Rd w lo g l e) :
    Calls Try.prog 26 #[rp g, .int .i64 s] w (RPost (.int .u64 (numB (tkL l e s (szB s)))) lo g (tkR l e s (szB s)) (tkE l e s (szB s)) w) := by
  have hlen := tkL_len l e s (szB s)
  have hm := hR.len
  go_enter Try.func26, Try.ntmps26
  go_wp2_with (first | (go_at_call 56; ((with_reducible refine (sized_b _ _).mono ?_); rintro e w1 ⟨rfl, rfl⟩)) | (go_at_call 55; ((with_reducible refine (take_any lo g l e s _ _ hR szB_nn).mono ?_); rintro e w1 ⟨A, c, rfl, hB, hc, hR', hg, hz⟩)) | (go_at_call 54; ((with_reducible refine (number_any _ _ _ lo g _ _ rfl hB (by omega)).mono ?_); rintro e w2 ⟨rfl, rfl⟩)))
  go_ret
  exact ⟨rfl, hR', hg, by omega⟩
set_option maxHeartbeats 1000000 in
theorem bytes_any (lo g : Nat) (l : List Int) (e n : Int) (w : World) (hR : Rd w lo g l e) (hl : l.length ≤ 140737488355328) :
    Calls Try.prog 29 #[rp g, .int .i64 n] w (BPost (tkL l e n (nnB n)) lo g (tkR l e n (nnB n)) (tkE l e n (nnB n)) w) := by
  have hD : decide (0 ≤ n) = nnB n := rfl
  have hlen := tkL_len l e n (nnB n)
  have hmk := fun W => makeU8 .i64 .i64 (tkL l e n (nnB n)).length (by omega) W
  go_enter Try.func29, Try.ntmps29
  go_wp2_with (first | (go_at_call 55; ((with_reducible refine (take_any lo g l e n _ _ hR nnB_nn).mono ?_); rintro e w1 ⟨A, c, rfl, hB, hc, hR', hg, hz⟩; (have hO1 := Ow.made w1 (tkL l e n (nnB n)).length (by omega)); rw [hz] at hO1; (have hB1 := hB.alloc (show g ≤ w1.heap.size by have := hR'.lt; omega) (.cells (madeCells #[.int .u8 0] (tkL l e n (nnB n)).length) 5)))) | (with_reducible refine wpList_copy_bs rfl (.tmp 15) (.tmp 16) rfl w.heap.size (tkL l e n (nnB n)).length (tkL l e n (nnB n)).length (tkL l e n (nnB n)).length c _ rfl rfl (by simp) rfl (by omega) hO1 hB1 ?_; intro w2 hO hg2 hz2))
  simp only [List.drop_replicate, Nat.sub_self, List.replicate_zero, List.append_nil] at hO
  simp only [World.size_alloc] at hz2
  have hlt := hR'.lt
  go_ret
  refine ⟨_, _, rfl, hO, Rd.grown (hR'.below ((Below.refl _ w1).alloc (Nat.le_refl _) _) hlt) hg2 (by simp; omega), ?_, by omega⟩
  exact ⟨hg2.os.trans hg.os, hg2.tape.trans hg.tape, hg2.output.trans hg.output, by omega, fun k hk hne => ((hg2.block k (by simp; omega) (by simp; omega)).trans (Below.heap_alloc _ _ _ (by omega))).trans (hg.block k hk hne)⟩
set_option maxHeartbeats 1000000 in
theorem left_any (lo g : Nat) (l : List Int) (e : Int) (w : World) (hR : Rd w lo g l e) :
    Calls Try.prog 30 #[rp g] w fun r w' => r = .returned (.int .i64 l.length) ∧ w = w' := by
  obtain ⟨A, c, h0, h1, hf, hB, hlc, hcm, hlo, hg⟩ := id hR
  go_enter Try.func30, Try.ntmps30
  go_wp2
  go_ret
  exact ⟨rfl, rfl⟩
theorem numB_app (L : List Int) (x : Int) : numB (L ++ [x]) = stepB (numB L) x := by unfold numB; rw [List.foldl_append]; rfl
theorem numB_take_lt {L : List Int} (h : Byt L) : ∀ k : Nat, k ≤ L.length → numB (L.take k) < 256 ^ k := by
  intro k
  induction k with
  | zero => intro _; simp [numB]
  | succ k ih =>
    intro hk
    have h1 := ih (by omega)
    have h2 := h.at k
    have h3 := (numB_range (L.take k)).1
    rw [numB_succ L k (by omega), Int.pow_succ]
    have : stepB (numB (L.take k)) (atB L k) ≤ numB (L.take k) * 256 + atB L k := by unfold stepB; omega
    omega
theorem numB_lt {L : List Int} (h : Byt L) : numB L < 256 ^ L.length := by
  have := numB_take_lt h L.length (Nat.le_refl _)
  rwa [List.take_length] at this
theorem sgn_eq (n : Int) (k : Nat) (h1 : 1 ≤ k) (h8 : k ≤ 8) (h0 : 0 ≤ n) (hn : n < 256 ^ k) :
    wrap64 (IntKind.u64.wrap (n * 2 ^ (64 - 8 * k))) / 2 ^ (64 - 8 * k) = if 2 * n < 256 ^ k then n else n - 256 ^ k := by
  rw [IntKind.wrap_u64]
  unfold wrap64
  have : k = 1 ∨ k = 2 ∨ k = 3 ∨ k = 4 ∨ k = 5 ∨ k = 6 ∨ k = 7 ∨ k = 8 := by omega
  rcases this with rfl | rfl | rfl | rfl | rfl | rfl | rfl | rfl <;> simp at hn ⊢ <;> split <;> omega
set_option maxHeartbeats 1000000 in
theorem int_any (lo g : Nat) (l : List Int) (e s : Int) (w : World) (hR : Rd w lo g l e) :
    Calls Try.prog 28 #[rp g, .int .i64 s] w (RPost (.int .i64 (intB (tkL l e s (szB s)))) lo g (tkR l e s (szB s)) (tkE l e s (szB s)) w) := by
  have hlen := tkL_len l e s (szB s)
  have hm := hR.len
  rcases tkL_sz l e s with h0 | ⟨h1, h8⟩
  · have HI : Hid (intB (tkL l e s (szB s)) = 0) := by show intB _ = 0; simp [intB, h0]
    go_enter Try.func28, Try.ntmps28
    go_wp2_with (first | (go_at_call 56; ((with_reducible refine (sized_b _ _).mono ?_); rintro e w1 ⟨rfl, rfl⟩)) | (go_at_call 55; ((with_reducible refine (take_any lo g l e s _ _ hR szB_nn).mono ?_); rintro e w1 ⟨A, c, rfl, hB, hc, hR', hg, hz⟩)))
    go_ret
    exact ⟨by rw [HI.out]; rfl, hR', hg, by omega⟩
  · have h1' : (1 : Int) ≤ (tkL l e s (szB s)).length := by omega
    have h8' : ((tkL l e s (szB s)).length : Int) ≤ 8 := by omega
    have hr := numB_range (tkL l e s (szB s))
    have hr1 := hr.1
    have hr2 := hr.2
    go_enter Try.func28, Try.ntmps28
    go_wp2_with (first | (go_at_call 56; ((with_reducible refine (sized_b _ _).mono ?_); rintro e w1 ⟨rfl, rfl⟩)) | (go_at_call 55; ((with_reducible refine (take_any lo g l e s _ _ hR szB_nn).mono ?_); rintro e w1 ⟨A, c, rfl, hB, hc, hR', hg, hz⟩)) | (go_at_call 54; ((with_reducible refine (number_any _ _ _ lo g _ _ rfl hB (by omega)).mono ?_); rintro e w2 ⟨rfl, rfl⟩)))
    have HI : intB (tkL l e s (szB s)) = _ := (show intB (tkL l e s (szB s)) = if 2 * numB (tkL l e s (szB s)) < 256 ^ (tkL l e s (szB s)).length then numB (tkL l e s (szB s)) else numB (tkL l e s (szB s)) - 256 ^ (tkL l e s (szB s)).length by unfold intB; rw [if_neg (by omega)]).trans (sgn_eq _ _ h1 h8 hr1 (numB_lt hB.byt)).symm
    go_ret
    exact ⟨by rw [HI]; rfl, hR', hg, by omega⟩
end Go.Proofs.Ytdnmjeapihjabaa
