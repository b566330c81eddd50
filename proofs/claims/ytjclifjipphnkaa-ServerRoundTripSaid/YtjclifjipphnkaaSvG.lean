/- The chapter's examples hold: the law's function awake returns true; the law's own comparison of fields. -/
import Derived.Test.YtjclifjipphnkaaSvF
import Derived.Test.YtjclifjipphnkaaSvC
namespace Go.Proofs.Ytjclifjipphnkaa
open Go.RowKit
set_option linter.unusedSimpArgs false
set_option linter.unusedVariables false
set_option maxRecDepth 100000
theorem Blk.bs {w : World} {g : Nat} {t : TypeId} {l : List Int} (h : Blk w g t (l.map (Value.int .u8))) (hb : Byt l) : Bs w g (g + 1) (some ⟨g, 0, none⟩) l :=
  ⟨hb, fun hp => ⟨g, 0, rfl, Nat.le_refl _, by omega, fun k hk => by
    rw [Nat.zero_add]
    refine h.cell ?_
    rw [List.getElem?_map, List.getElem?_eq_getElem hk]
    unfold atB
    rw [List.getD_eq_getElem?_getD, List.getElem?_eq_getElem hk]
    rfl⟩⟩
theorem ex_reply (w : World) : Calls Try.prog 9 #[ntp 0 4 3 0 6 0 0 0 0 0 0 0 7, .int .u64 1, .int .u64 2, .int .u64 3, root 16 0 0 9, .int .i64 0, .int .i64 (-20)] w fun e w' => e = .returned (.tuple #[ntp 3 4 4 0 6 (-20) 0 0 9 3 7 1 2, .int .i64 0]) ∧ Below w.heap.size w w' :=
  reply_ok 0 4 3 0 6 0 0 0 0 0 0 0 7 1 2 3 16 0 0 9 0 (-20) w (by decide +kernel) (by decide +kernel)
theorem ex_kiss (w : World) : Calls Try.prog 14 #[ntp 0 4 3 0 6 0 0 0 0 0 0 0 7, .string ⟨#[82, 65, 84, 69]⟩] w fun e w' => e = .returned (.tuple #[ntp 3 4 4 0 6 0 0 0 1380013125 0 7 7 7, .int .i64 0]) ∧ Below w.heap.size w w' := by
  have h := kreply_ok 0 4 3 0 6 0 0 0 0 0 0 0 7 ⟨#[82, 65, 84, 69]⟩ w (by decide) (by decide +kernel) (by decide +kernel)
  rw [show cdV ⟨#[82, 65, 84, 69]⟩ = 1380013125 by decide +kernel] at h
  exact h
abbrev exI : List Int := [255, 255, 255, 255, 255, 255, 255, 255, 0, 0, 0, 0, 0, 0, 1, 2]
theorem exI_byt : Byt exI := fun x hx => by simp [exI] at hx; omega
theorem ex_field (w : World) : Calls Try.prog 18 #[.agg (ivL (-1) 258).toArray] w fun e w' => ∃ g, e = .returned (.tuple #[exV 28929 (some ⟨g, 0, none⟩) 16 16, .int .i64 0]) ∧ Blk w' g 5 (exI.map (Value.int .u8)) ∧ w.heap.size ≤ g ∧ Below w.heap.size w w' := by
  have h := field_ok (-1) 258 w (by decide)
  rw [show bytesB 8 (u64 (-1)) ++ bytesB 8 (u64 258) = exI by decide +kernel] at h
  exact h
set_option maxHeartbeats 8000000 in
theorem awake_any (w : World) : Calls Try.prog 11 #[] w fun e w' => e = .returned (.bool true) ∧ Below w.heap.size w w' := by
  go_enter Try.func11, Try.ntmps11
  go_wp2_with (first
    | (refine wpl_alloc (by rfl) 25 (by rfl) (.agg (zN).toArray) (zN) zeroNtp rfl ?_; intro w1 J1 s1 b1)
    | (refine wpl_store (by rfl) 25 _ _ (by rfl) w.heap.size (by rfl) _ (by rfl) _ rfl 25 _ J1 (by rfl) _ sizeNtp (by rfl) (by simp [Value.oneCell']) ?_; intro w2 P2 s2 g2)
    | (refine wpl_load (by rfl) 25 _ (by rfl) w.heap.size (by rfl) 25 _ P2 _ Try.underlying25 rfl _ sizeNtp (by rfl) ?_))
  have B2 := b1.trans (g2.below (by omega) (Nat.le_refl _))
  have z2 := P2.lt
  clear J1 b1 g2
  with_reducible refine (ex_reply w2).mono ?_
  rintro e w3 ⟨rfl, b3⟩
  have P3 := P2.below b3 z2
  have B3 := B2.trans (b3.mono B2.size)
  have z3 := b3.size
  clear P2 B2 b3
  go_wp2_with (first
    | (refine wpl_alloc (by rfl) 25 (by rfl) (.agg (zN).toArray) (zN) zeroNtp rfl ?_; intro w4 J4 s4 b4)
    | (refine wpl_store (by rfl) 25 _ _ (by rfl) w3.heap.size (by rfl) _ (by rfl) _ rfl 25 _ J4 (by rfl) _ sizeNtp (by rfl) (by simp [Value.oneCell']) ?_; intro w5 Q5 s5 g5)
    | (refine wpl_load (by rfl) 25 _ (by rfl) w.heap.size (by rfl) 25 _ ((P3.below b4 (by omega)).but g5 (by omega)) _ Try.underlying25 rfl _ sizeNtp (by rfl) ?_))
  have B5 := (B3.trans (b4.mono (by omega))).trans (g5.below (by omega) (by omega))
  have z5 := Q5.lt
  clear P3 B3 b4 g5 J4
  with_reducible refine (ex_kiss w5).mono ?_
  rintro e w6 ⟨rfl, b6⟩
  have Q6 := Q5.below b6 z5
  have B6 := B5.trans (b6.mono B5.size)
  have z6 := b6.size
  clear Q5 B5 b6
  go_wp2_with (first
    | (refine wpl_alloc (by rfl) 25 (by rfl) (.agg (zN).toArray) (zN) zeroNtp rfl ?_; intro w7 J7 s7 b7)
    | (refine wpl_store (by rfl) 25 _ _ (by rfl) w6.heap.size (by rfl) _ (by rfl) _ rfl 25 _ J7 (by rfl) _ sizeNtp (by rfl) (by simp [Value.oneCell']) ?_; intro w8 R8 s8 g8))
  have Q8 := (Q6.below b7 (by omega)).but g8 (by omega)
  have B8 := (B6.trans (b7.mono (by omega))).trans (g8.below (by omega) (by omega))
  have z8 := R8.lt
  clear Q6 B6 b7 g8 J7
  with_reducible refine (ex_field w8).mono ?_
  rintro e w9 ⟨g, rfl, M9, hg, b9⟩
  have Q9 := Q8.below b9 (by omega)
  have R9 := R8.below b9 z8
  have B9 := B8.trans (b9.mono B8.size)
  have z9 := b9.size
  have zg := M9.lt
  clear Q8 R8 B8 b9
  go_wp2_with (first
    | (refine wpl_alloc (by rfl) 50 (by rfl) (.agg (exL 0 none 0 0).toArray) (exL 0 none 0 0) zeroExt rfl ?_; intro w10 J10 s10 b10)
    | (refine wpl_store (by rfl) 50 _ _ (by rfl) w9.heap.size (by rfl) _ (by rfl) (exL 28929 (some ⟨g, 0, none⟩) 16 16) rfl 50 _ J10 (by rfl) _ sizeExt (by rfl) (by simp [Value.oneCell']) ?_; intro w11 X11 s11 g11; (have Q11 := (Q9.below b10 (by omega)).but g11 (by omega)); (have R11 := (R9.below b10 (by omega)).but g11 (by omega)))
    | (refine wpl_load (by rfl) 25 _ (by rfl) w3.heap.size (by rfl) 25 _ Q11 _ Try.underlying25 rfl _ sizeNtp (by rfl) ?_) | (refine wpl_load (by rfl) 25 _ (by rfl) w6.heap.size (by rfl) 25 _ R11 _ Try.underlying25 rfl _ sizeNtp (by rfl) ?_)
    | (refine wpl_loadf (by rfl) 3 _ (by rfl) w9.heap.size 0 (by rfl) _ _ X11 _ rfl _ Try.underlying3 rfl ?_) | (refine wpl_loadf (by rfl) 48 _ (by rfl) w9.heap.size 1 (by rfl) _ _ X11 _ rfl _ Try.underlying48 rfl ?_))
  have M11 := (M9.below b10 (by omega)).but g11 (by omega)
  have B11 := (B9.trans (b10.mono (by omega))).trans (g11.below (by omega) (by omega))
  clear Q9 R9 B9 b10 g11 J10 M9
  have hL := Ow.lit w11 exI #[.int .u8 255, .int .u8 255, .int .u8 255, .int .u8 255, .int .u8 255, .int .u8 255, .int .u8 255, .int .u8 255, .int .u8 0, .int .u8 0, .int .u8 0, .int .u8 0, .int .u8 0, .int .u8 0, .int .u8 1, .int .u8 2] rfl exI_byt (by simp)
  have hE := equal_any (some ⟨g, 0, none⟩) (some ⟨w11.heap.size, 0, none⟩) 16 16 16 16 _ _ _ _ exI exI _ rfl rfl (((M11.old).bs exI_byt)) hL.bs (by simp; omega) (by simp) (by omega) (by omega)
  rw [eqB_self] at hE
  with_reducible refine hE.mono ?_
  rintro e w12 ⟨rfl, b12⟩
  go_wp2
  go_ret
  exact ⟨rfl, (B11.alloc (by omega) _).trans (b12.mono (by simp; omega))⟩
end Go.Proofs.Ytjclifjipphnkaa
