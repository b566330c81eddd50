/- GuardNobody (P47.1, P47.6): the walk. -/
import Derived.Test.YtachhbbofemfdaaDoorGZ18
namespace Go.Proofs.YtachhbbofemfdaaDoor
open Go.RowKit
set_option linter.unusedSimpArgs false
set_option linter.unusedVariables false
set_option maxRecDepth 100000
theorem newcl_one (n : Nat) (B : Nat) (w : World) (A : Option Addr) (c : Nat) (hB : Blk w B 23 [.slice A n c]) (hA : Bs w 0 w.heap.size A (List.replicate n 0)) :
    Calls Tryd.prog 20 #[keyV 0 0, keyV 0 0, .slice (some ⟨B, 0, none⟩) 1 1] w fun e w' => (∃ p, e = .returned (.pointer p) ∧ (p = none ↔ n ≠ 52)) ∧ Below w.heap.size w w' := by
  refine (newcl_any 0 0 0 0 (some ⟨B, 0, none⟩) 1 1 [List.replicate n 0] w (by omega) rfl (ls_one hB hB.lt (by simp) hA) (Nat.le_refl _)).mono fun e w' hh => ?_
  rcases hh with ⟨h1, ⟨l, hl, h2⟩, h3⟩ | ⟨b, g1, T, A', n', c', h1, h2, h3, h4⟩
  · rw [List.mem_singleton.1 hl] at h2
    exact ⟨⟨none, h1, by simpa using h2⟩, h3⟩
  · refine ⟨⟨_, h1, ?_⟩, h4⟩
    have h52 : n = 52 := by
      obtain ⟨t, rfl⟩ : ∃ t, T = [t] := by
        have hl := congrArg List.length h3
        rw [List.length_map] at hl
        exact List.length_eq_one_iff.1 hl
      have h5 := (h2.ck t (by simp)).2
      simp only [List.map_cons, List.map_nil, List.cons.injEq, and_true] at h3
      rw [h3] at h5
      simpa using h5
    simp [h52]
set_option maxRecDepth 100000 in
set_option maxHeartbeats 16000000 in
theorem nobody47 (l v m st po pr rd rp id ref org rec xmt : Int) (Ai : Option Addr) (ni ci : Nat) (x0 x1 x2 x3 nonce n : Int) (w : World) (hR : Rnd w) (h0 : 0 ≤ n) (h1 : n ≤ 255) :
    Calls Tryd.prog 7 #[ntp l v m st po pr rd rp id ref org rec xmt, .agg (tktL Ai ni ci x0 x1 x2 x3).toArray, .int .u64 nonce, .int .u8 n] w fun e w' => e = .returned (.bool true) ∧ Below w.heap.size w w' := by
  obtain ⟨N, hN⟩ : ∃ N : Nat, n = N := ⟨n.toNat, by omega⟩
  subst hN
  have hmk : ∀ W : World, (Instr.makeSlice 23 (.int .u8 N) (.int .u8 N)).run Tryd.prog W = .ok (.slice (some ⟨W.heap.size, 0, none⟩) N N) (W.alloc (.cells (madeCells #[.int .u8 0] N) 5)) := fun W => makeU8 .u8 .u8 N (by omega) W
  have hw0 := hR.lt
  go_enter Tryd.func7, Tryd.ntmps7
  go_wp2_with (first
    | (refine wpl_box (by rfl) 27 _ (by rfl) _ ([.int .i64 l, .int .i64 v, .int .i64 m, .int .i64 st, .int .i64 po, .int .i64 pr, .int .u32 rd, .int .u32 rp, .int .u32 id, .int .u64 ref, .int .u64 org, .int .u64 rec, .int .u64 xmt]) (by rfl) rfl ?_; intro w1 P1 s1 b1)
    | ((refine wpl_box (by rfl) 31 _ (by rfl) _ (tktL Ai ni ci x0 x1 x2 x3) (by rfl) rfl ?_; intro w2 T2 s2 b2); (have P2 := P1.below b2 (by omega)); (have B2 := b1.trans (b2.mono (by omega))))
    | (refine wpl_load (by rfl) 27 _ (by rfl) w.heap.size (by rfl) 27 _ P2 _ Tryd.underlying27 rfl _ sizeNtp (by rfl) ?_)
    | (go_at_call 21; ((with_reducible refine (req_nil _ _ _ _ _ _ _ _ _ _ _ _ _ _ _).mono ?_); rintro e w3 ⟨rfl, b3⟩; (have P3 := P2.below b3 P2.lt); (have T3 := T2.below b3 T2.lt); (have B3 := B2.trans (b3.mono B2.size))))
    | (go_at_call 24; ((with_reducible refine (acc_nil _ _ _ _).mono ?_); rintro e w4 ⟨rfl, b4⟩; (have P4 := P3.below b4 P3.lt); (have T4 := T3.below b4 T3.lt); (have B4 := B3.trans (b4.mono B3.size))))
    | ((refine wpl_alloc (by rfl) 27 (by rfl) (.agg (zN).toArray) (zN) zeroNtp rfl ?_; intro w5 J5 s5 b5); (have P5 := P4.below b5 P4.lt); (have T5 := T4.below b5 T4.lt); (have B5 := B4.trans (b5.mono B4.size)))
    | ((refine wpl_store (by rfl) 27 _ _ (by rfl) w4.heap.size (by rfl) _ (by rfl) _ rfl 27 _ J5 (by rfl) _ sizeNtp (by rfl) (by simp [Value.oneCell']) ?_; intro w6 J6 s6 g6); (have P6 := P5.but g6 (Nat.ne_of_lt P4.lt)); (have T6 := T5.but g6 (Nat.ne_of_lt T4.lt)); (have B6 := B5.trans (g6.below B5.size B4.size))))
  go_wp2_with (first
    | (go_at_call 11; ((with_reducible refine (gopen_nil _ _ _ _).mono ?_); rintro e w7 ⟨rfl, b7⟩; (have P7 := P6.below b7 P6.lt); (have T7 := T6.below b7 T6.lt); (have B7 := B6.trans (b7.mono B6.size))))
    | ((refine wpl_alloc (by rfl) 27 (by rfl) (.agg (zN).toArray) (zN) zeroNtp rfl ?_; intro w8 J8 s8 b8); (have P8 := P7.below b8 P7.lt); (have T8 := T7.below b8 T7.lt); (have B8 := B7.trans (b8.mono B7.size)))
    | ((refine wpl_alloc (by rfl) 31 (by rfl) (.agg (tktL none 0 0 0 0 0 0).toArray) (tktL none 0 0 0 0 0 0) zeroTk rfl ?_; intro w9 K9 s9 b9); (have J9 := J8.below b9 (by omega)); (have P9 := P8.below b9 P8.lt); (have T9 := T8.below b9 T8.lt); (have B9 := B8.trans (b9.mono B8.size)))
    | ((refine wpl_store (by rfl) 27 _ _ (by rfl) w7.heap.size (by rfl) _ (by rfl) _ rfl 27 _ J9 (by rfl) _ sizeNtp (by rfl) (by simp [Value.oneCell']) ?_; intro w10 J10 s10 g10); (have K10 := K9.but g10 (by omega)); (have P10 := P9.but g10 (Nat.ne_of_lt P7.lt)); (have T10 := T9.but g10 (Nat.ne_of_lt T7.lt)); (have B10 := B9.trans (g10.below B9.size B7.size)))
    | ((refine wpl_store (by rfl) 31 _ _ (by rfl) w8.heap.size (by rfl) _ (by rfl) _ rfl 31 _ K10 (by rfl) _ sizeTk (by rfl) (by simp [Value.oneCell']) ?_; intro w11 K11 s11 g11); (have P11 := P10.but g11 (Nat.ne_of_lt P8.lt)); (have T11 := T10.but g11 (Nat.ne_of_lt T8.lt)); (have B11 := B10.trans (g11.below B10.size B8.size)))
    | (refine wpl_load (by rfl) 31 _ (by rfl) w1.heap.size (by rfl) 31 _ T11 _ Tryd.underlying31 rfl _ sizeTk (by rfl) ?_)
    | (refine wpl_load (by rfl) 27 _ (by rfl) w.heap.size (by rfl) 27 _ P11 _ Tryd.underlying27 rfl _ sizeNtp (by rfl) ?_)
    | (go_at_call 17; ((with_reducible refine (greply_nil Ai ni ci x0 x1 x2 x3 l v m st po pr rd rp id ref org rec xmt nonce none 0 0 _).mono ?_); rintro e w12 ⟨rfl, b12⟩; (have B12 := B11.trans (b12.mono B11.size)))))
  have R12 := hR.below B12 hw0
  clear P1 P2 P3 P4 P5 P6 P7 P8 P9 P10 P11 T2 T3 T4 T5 T6 T7 T8 T9 T10 T11 J5 J6 J8 J9 J10 K9 K10 K11 b1 b2 b3 b4 b5 b7 b8 b9 b12 g6 g10 g11 B2 B3 B4 B5 B6 B7 B8 B9 B10 B11 s1 s2 s5 s6 s8 s9 s10 s11
  go_wp2_with fail
  have hO13 := Ow.made w12 N (by omega)
  have hs13 : w12.heap.size + 1 = (w12.alloc (.cells (madeCells #[.int .u8 0] N) 5)).heap.size := (Array.size_push _).symm
  have b13 : Below w12.heap.size w12 (w12.alloc (.cells (madeCells #[.int .u8 0] N) 5)) := (Below.refl _ w12).alloc (Nat.le_refl _) _
  generalize w12.alloc (.cells (madeCells #[.int .u8 0] N) 5) = w13 at hO13 hs13 b13 ⊢
  have h13 : w12.heap.size < w13.heap.size := by omega
  rw [hs13]
  have hB14 := Blk.new w13 23 #[.slice (some ⟨w12.heap.size, 0, none⟩) N N] [.slice (some ⟨w12.heap.size, 0, none⟩) N N] rfl
  have b14 : Below w13.heap.size w13 (w13.alloc (.cells #[.slice (some ⟨w12.heap.size, 0, none⟩) N N] 23)) := (Below.refl _ w13).alloc (Nat.le_refl _) _
  have hA14 : Bs (w13.alloc (.cells #[.slice (some ⟨w12.heap.size, 0, none⟩) N N] 23)) 0 (w13.alloc (.cells #[.slice (some ⟨w12.heap.size, 0, none⟩) N N] 23)).heap.size (some ⟨w12.heap.size, 0, none⟩) (List.replicate N 0) := ((hO13.bs.wide (Nat.zero_le _) (Nat.le_refl _)).below b14 (Nat.le_refl _)).wide (Nat.le_refl _) b14.size
  have hC := newcl_one N w13.heap.size _ (some ⟨w12.heap.size, 0, none⟩) N hB14 hA14
  generalize w13.alloc (.cells #[.slice (some ⟨w12.heap.size, 0, none⟩) N N] 23) = w14 at hC b14 ⊢
  with_reducible refine hC.mono ?_
  rintro e w15 ⟨⟨p1, rfl, hp1⟩, b15⟩
  have R15 := ((R12.below b13 (by have := R12.lt; omega)).below b14 (by have := R12.lt; omega)).below b15 (by have := R12.lt; have := b14.size; omega)
  have b15' : Below w12.heap.size w12 w15 := (b13.trans (b14.mono (by omega))).trans (b15.mono (by have := b14.size; omega))
  have B15 := B12.trans (b15'.mono B12.size)
  have hq : p1.isNone = ((N : Int) != 52) := by
    rw [Bool.eq_iff_iff, Option.isNone_iff_eq_none, hp1, bne_iff_ne]
    omega
  clear hp1 hC hB14 hA14 hO13 hs13 h13 b13 b14 b15 b15' R12 B12 w14
  have hm9 : ∀ W : World, (Instr.makeSlice 51 (.int .i64 9) (.int .i64 9)).run Tryd.prog W = .ok (.slice (some ⟨W.heap.size, 0, none⟩) 9 9) (W.alloc (.cells (madeCells #[.slice none 0 0] 9) 23)) := fun W => run_make_row' 51 23 (.slice none 0 0) 24 Tryd.underlying51 infoSl rfl .i64 .i64 9 (by omega) (by omega) W
  go_wp2_with (first
    | (go_at_call 20; ((with_reducible refine (newcl_many 0 0 0 0 _ 9 9 _ (by omega) (by omega)).mono ?_); rintro e w16 ⟨rfl, b16⟩)))
  have b16' : Below w15.heap.size w15 w16 := by
    have hb := (Below.refl w15.heap.size w15).alloc (Nat.le_refl _) (.cells (madeCells #[.slice none 0 0] 9) 23)
    exact hb.trans (b16.mono hb.size)
  have R16 := R15.below b16' R15.lt
  have B16 := B15.trans (b16'.mono B15.size)
  clear b16 b16' R15 B15 hm9
  go_wp2_with (first
    | (go_at_call 23; ((with_reducible refine (cookies_nil _).mono ?_); rintro e _ ⟨rfl, rfl⟩))
    | (go_at_call 10; ((with_reducible refine (awake_any _ R16).mono ?_); rintro e w17 ⟨rfl, b17⟩)))
  go_ret
  exact ⟨rfl, B16.trans (b17.mono B16.size)⟩
end Go.Proofs.YtachhbbofemfdaaDoor
