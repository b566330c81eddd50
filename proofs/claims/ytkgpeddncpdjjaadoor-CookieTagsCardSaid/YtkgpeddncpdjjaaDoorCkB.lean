/- The tag of bytes under a key: what both Tags compute, and the contracts of the closures. -/
import Derived.Test.YtkgpeddncpdjjaaDoorCkA
import Derived.Test.YtkgpeddncpdjjaaDoorHeld
import Derived.Test.YtkgpeddncpdjjaaDoorWire
namespace Go.Proofs.YtkgpeddncpdjjaaDoor
open Go.RowKit
set_option linter.unusedSimpArgs false
set_option linter.unusedVariables false
set_option maxRecDepth 100000
/-- bytes as a number, the least first -/
def wordF : List Int → Int
  | [] => 0
  | x :: r => x + 256 * wordF r
theorem wordF_app (l : List Int) (x : Int) : wordF (l ++ [x]) = wordF l + x * 256 ^ l.length := by
  induction l with
  | nil => simp [wordF]
  | cons y r ih =>
    simp only [List.cons_append, wordF, ih, List.length_cons, Int.pow_succ]
    rw [Int.mul_add, Int.add_assoc]
    congr 2
    rw [Int.mul_comm (256 ^ r.length) 256, ← Int.mul_assoc, ← Int.mul_assoc, Int.mul_comm 256 x]
theorem wordF_rng {l : List Int} (h : Byt l) : 0 ≤ wordF l ∧ wordF l < 256 ^ l.length := by
  induction l with
  | nil => simp [wordF]
  | cons x r ih =>
    have h0 := h x (by simp)
    obtain ⟨h1, h2⟩ := ih fun y hy => h y (by simp [hy])
    simp only [wordF, List.length_cons, Int.pow_succ]
    omega
/-- behind q words of eight bytes -/
def hsF (h0 : Int) (l : List Int) : Nat → Int
  | 0 => h0
  | q + 1 => mixF (hsF h0 l q) (wordF ((l.drop (8 * q)).take 8))
def tagF (k0 k1 : Int) (l : List Int) : Int := mixF (hsF (mixF k0 k1) l ((l.length + 7) / 8)) l.length
theorem hsF_u64 {h0 : Int} (h : U64 h0) (l : List Int) (q : Nat) : U64 (hsF h0 l q) := by
  cases q with
  | zero => exact h
  | succ q => exact mixF_u64 _ _
theorem word_take {l : List Int} (k : Nat) (hk : k < l.length) : wordF (l.take (k + 1)) = wordF (l.take k) + atB l k * 256 ^ k := by
  rw [take_succ' l k hk, wordF_app, List.length_take, Nat.min_eq_left (by omega)]
theorem pow8_le {k : Nat} (h : k ≤ 8) : (256 : Int) ^ k ≤ 18446744073709551616 := by
  have : k = 0 ∨ k = 1 ∨ k = 2 ∨ k = 3 ∨ k = 4 ∨ k = 5 ∨ k = 6 ∨ k = 7 ∨ k = 8 := by omega
  rcases this with rfl | rfl | rfl | rfl | rfl | rfl | rfl | rfl | rfl <;> decide
theorem word_u64 {l : List Int} (h : Byt l) (hl : l.length ≤ 8) : U64 (wordF l) := by
  obtain ⟨h0, h1⟩ := wordF_rng h
  have := pow8_le hl
  unfold U64
  omega
abbrev one64 (x : Int) : List Value := [.int .u64 x]
abbrev oneI (x : Int) : List Value := [.int .i64 x]
theorem sizeU64' : (Tryd.prog.info? 22).map (·.size) = some 1 := by kernel_rfl
theorem sizeI64' : (Tryd.prog.info? 3).map (·.size) = some 1 := by kernel_rfl
set_option maxHeartbeats 4000000 in
theorem mix1_no (bs bh bw : Nat) (w : World) (hS : Blk w bs 3 (oneI 0)) :
    Calls Tryd.prog 44 #[.pointer (some ⟨bs, 0, none⟩), .pointer (some ⟨bh, 0, none⟩), .pointer (some ⟨bw, 0, none⟩)] w fun e w' => e = .returned (.tuple #[]) ∧ w = w' := by
  go_enter Tryd.func44, Tryd.ntmps44
  go_wp2_with (first | (refine wpl_loadf (by rfl) 3 _ (by rfl) bs 0 (by rfl) _ _ hS _ rfl _ Tryd.underlying3 rfl ?_))
  exact bodyPost_end (v := .tuple #[]) (by simp [results, Tryd.results44]) rfl ⟨rfl, rfl⟩
set_option maxHeartbeats 4000000 in
theorem mix1_yes (bs bh bw : Nat) (s h wd : Int) (w : World) (hs : 0 < s) (hh : U64 h) (hwd : U64 wd) (hS : Blk w bs 3 (oneI s)) (hH : Blk w bh 22 (one64 h)) (hW : Blk w bw 22 (one64 wd)) (hR : Rnd w) (h1 : bs ≠ bh) (h2 : bs ≠ bw) (h3 : bh ≠ bw) :
    Calls Tryd.prog 44 #[.pointer (some ⟨bs, 0, none⟩), .pointer (some ⟨bh, 0, none⟩), .pointer (some ⟨bw, 0, none⟩)] w fun e w' => e = .returned (.tuple #[]) ∧ Blk w' bs 3 (oneI 0) ∧ Blk w' bh 22 (one64 (mixF h wd)) ∧ Blk w' bw 22 (one64 0) ∧ Kp w [bs, bh, bw] w' := by
  have d0 : decide (0 < s) = true := decide_eq_true hs
  have l1 := hS.lt
  have l2 := hH.lt
  have l3 := hW.lt
  have hM := mix_any h wd w hh hwd hR
  clear hs hh hwd
  go_enter Tryd.func44, Tryd.ntmps44
  go_wp2_with (first
    | (refine wpl_loadf (by rfl) 3 _ (by rfl) bs 0 (by rfl) _ _ hS _ rfl _ Tryd.underlying3 rfl ?_)
    | (refine wpl_loadf (by rfl) 22 _ (by rfl) bh 0 (by rfl) _ _ hH _ rfl _ Tryd.underlying22 rfl ?_)
    | (refine wpl_loadf (by rfl) 22 _ (by rfl) bw 0 (by rfl) _ _ hW _ rfl _ Tryd.underlying22 rfl ?_)
    | (go_at_call 35; ((with_reducible refine hM.mono ?_); rintro e w1 ⟨rfl, b1⟩; (have S1 := hS.below b1 l1); (have H1 := hH.below b1 l2); (have W1 := hW.below b1 l3)))
    | ((refine wpl_storeg (by rfl) 22 _ _ (by rfl) bh 0 (by rfl) (.int .u64 (mixF h wd)) (by rfl) (by rfl) (by simp [Value.oneCell']) _ _ (one64 (mixF h wd)) H1 (by simp) sizeU64' (by rfl) ?_; intro w2 H2 s2 g2); (have S2 := S1.but g2 h1); (have W2 := W1.but g2 (Ne.symm h3)))
    | ((refine wpl_storeg (by rfl) 22 _ _ (by rfl) bw 0 (by rfl) (.int .u64 0) (by rfl) (by rfl) (by simp [Value.oneCell']) _ _ (one64 0) W2 (by simp) sizeU64' (by rfl) ?_; intro w3 W3 s3 g3); (have S3 := S2.but g3 h2); (have H3 := H2.but g3 h3))
    | ((refine wpl_storeg (by rfl) 3 _ _ (by rfl) bs 0 (by rfl) (.int .i64 0) (by rfl) (by rfl) (by simp [Value.oneCell']) _ _ (oneI 0) S3 (by simp) sizeI64' (by rfl) ?_; intro w4 S4 s4 g4)))
  exact bodyPost_end (v := .tuple #[]) (by simp [results, Tryd.results44]) rfl ⟨rfl, S4, H3.but g4 (Ne.symm h1), W3.but g4 (Ne.symm h2), (((Kp.of_below b1).but g2 (.inr (by simp))).but g3 (.inr (by simp))).but g4 (.inr (by simp))⟩
/-- eight bytes at most: the next one goes above -/
theorem or_word {wd c : Int} (s : Nat) (hs : s < 8) (h0 : 0 ≤ wd) (h1 : wd < 256 ^ s) (c0 : 0 ≤ c) (c1 : c ≤ 255) : bits .or .u64 wd (c * 256 ^ s) = wd + c * 256 ^ s := by
  obtain ⟨a, rfl⟩ : ∃ a : Nat, wd = a := ⟨wd.toNat, by omega⟩
  obtain ⟨b, rfl⟩ : ∃ b : Nat, c = b := ⟨c.toNat, by omega⟩
  have e : ((b : Int) * 256 ^ s) = ((b * 256 ^ s : Nat) : Int) := by simp
  have ha : a < 256 ^ s := by exact_mod_cast h1
  have hb : b * 256 ^ s ≤ 255 * 256 ^ s := Nat.mul_le_mul_right _ (by omega)
  have hp : 256 ^ s * 256 ≤ 18446744073709551616 := by
    have : s = 0 ∨ s = 1 ∨ s = 2 ∨ s = 3 ∨ s = 4 ∨ s = 5 ∨ s = 6 ∨ s = 7 := by omega
    rcases this with rfl | rfl | rfl | rfl | rfl | rfl | rfl | rfl <;> decide
  rw [e, Go.u64_or _ _ (by omega) (by omega) (by omega) (by omega)]
  have h3 := Nat.two_pow_add_eq_or_of_lt (b := a) (i := 8 * s) (by rw [Nat.pow_mul]; exact ha) b
  rw [Nat.pow_mul, show (2 : Nat) ^ 8 = 256 from rfl] at h3
  simp only [Int.toNat_natCast]
  rw [Nat.or_comm, Nat.mul_comm b, ← h3]
  omega
theorem pw8 {c : Int} (s : Nat) (hs : s < 8) (c0 : 0 ≤ c) (c1 : c ≤ 255) : U64 (c * 256 ^ s) := by
  have : s = 0 ∨ s = 1 ∨ s = 2 ∨ s = 3 ∨ s = 4 ∨ s = 5 ∨ s = 6 ∨ s = 7 := by omega
  unfold U64
  rcases this with rfl | rfl | rfl | rfl | rfl | rfl | rfl | rfl <;> omega
theorem shl8 {c : Int} (s : Nat) (hs : s < 8) (c0 : 0 ≤ c) (c1 : c ≤ 255) : IntKind.u64.wrap (c * 2 ^ (8 * s)) = c * 256 ^ s := by
  obtain ⟨h0, h1⟩ := pw8 s hs c0 c1
  rw [Int.pow_mul, IntKind.wrap_u64]
  show (c * 256 ^ s) % 18446744073709551616 = _
  omega
set_option maxHeartbeats 4000000 in
theorem step2_lt (bs bw bf : Nat) (s : Nat) (c wd : Int) (fv : Value) (w : World) (hs : s < 7) (c0 : 0 ≤ c) (c1 : c ≤ 255) (h0 : 0 ≤ wd) (h1 : wd < 256 ^ s) (hS : Blk w bs 3 (oneI s)) (hW : Blk w bw 22 (one64 wd)) (hsw : bs ≠ bw) :
    Calls Tryd.prog 45 #[.int .u8 c, .pointer (some ⟨bw, 0, none⟩), .pointer (some ⟨bs, 0, none⟩), .pointer (some ⟨bf, 0, none⟩)] w fun e w' => e = .returned (.tuple #[]) ∧ Blk w' bs 3 (oneI ((s + 1 : Nat) : Int)) ∧ Blk w' bw 22 (one64 (wd + c * 256 ^ s)) ∧ Kp w [bs, bw] w' := by
  have e1 := or_word s (by omega) h0 h1 c0 c1
  have e2 := shl8 s (by omega) c0 c1
  have q1 := hS.drew.cell (i := 0) rfl
  have q2 := hW.drew.cell (i := 0) rfl
  have q3 := hW.drew.frozen 0
  go_enter Tryd.func45, Tryd.ntmps45
  have hs0 : (0 : Int) ≤ s := by omega
  have hs1 : (s : Int) < 7 := by omega
  go_wp2
  go_region
  have W1 : Blk (w.setCell ⟨bw, 0, none⟩ (.int .u64 (wd + c * 256 ^ s))).drew bw 22 (one64 (wd + c * 256 ^ s)) := (hW.set 0 _).drew
  have S1 : Blk (w.setCell ⟨bw, 0, none⟩ (.int .u64 (wd + c * 256 ^ s))).drew bs 3 (oneI s) := (hS.far hsw).drew
  have K1 : Kp w [bs, bw] (w.setCell ⟨bw, 0, none⟩ (.int .u64 (wd + c * 256 ^ s))).drew := ((Kp.refl w _).set (.inr (by simp))).drew
  generalize (w.setCell ⟨bw, 0, none⟩ (.int .u64 (wd + c * 256 ^ s))).drew = w1 at W1 S1 K1 ⊢
  have d8 : ((s : Int) + 1 == 8) = false := by simp; omega
  clear q1 q2 q3 e1 e2 hS hW
  go_wp2_with (first
    | (refine wpl_loadf (by rfl) 3 _ (by rfl) bs 0 (by rfl) _ _ S1 _ rfl _ Tryd.underlying3 rfl ?_)
    | ((refine wpl_storeg (by rfl) 3 _ _ (by rfl) bs 0 (by rfl) (.int .i64 ((s : Int) + 1)) (by rfl) (by rfl) (by simp [Value.oneCell']) _ _ (oneI ((s : Int) + 1)) S1 (by simp) sizeI64' (by rfl) ?_; intro w2 S2 s2 g2); (have W2 := W1.but g2 (Ne.symm hsw)))
    | (refine wpl_loadf (by rfl) 3 _ (by rfl) bs 0 (by rfl) _ _ S2 _ rfl _ Tryd.underlying3 rfl ?_))
  exact bodyPost_end (v := .tuple #[]) (by simp [results, Tryd.results45]) rfl ⟨rfl, by simpa using S2, W2, K1.but g2 (.inr (by simp))⟩
theorem kp_mono {x y : World} {G G' : List Nat} (h : Kp x G y) (hs : ∀ b, b ∈ G → b ∈ G') : Kp x G' y := ⟨h.os, h.tape, h.output, h.size, fun b hb hn => h.block b hb fun hg => hn (hs b hg)⟩
set_option maxHeartbeats 4000000 in
theorem step2_eq (bs bw bh bf : Nat) (c wd h : Int) (w : World) (c0 : 0 ≤ c) (c1 : c ≤ 255) (h0 : 0 ≤ wd) (h1 : wd < 72057594037927936) (hh : U64 h) (hS : Blk w bs 3 (oneI 7)) (hW : Blk w bw 22 (one64 wd)) (hH : Blk w bh 22 (one64 h)) (hF : Blk w bf 1 [.func (.func 44) #[] #[.pointer (some ⟨bs, 0, none⟩), .pointer (some ⟨bh, 0, none⟩), .pointer (some ⟨bw, 0, none⟩)]]) (hR : Rnd w)
    (hsw : bs ≠ bw) (hsh : bs ≠ bh) (hhw : bh ≠ bw) (hfw : bf ≠ bw) (hfs : bf ≠ bs) (hz : 0 ≠ bw ∧ 0 ≠ bs) :
    Calls Tryd.prog 45 #[.int .u8 c, .pointer (some ⟨bw, 0, none⟩), .pointer (some ⟨bs, 0, none⟩), .pointer (some ⟨bf, 0, none⟩)] w fun e w' => e = .returned (.tuple #[]) ∧ Blk w' bs 3 (oneI 0) ∧ Blk w' bw 22 (one64 0) ∧ Blk w' bh 22 (one64 (mixF h (wd + c * 72057594037927936))) ∧ Kp w [bs, bh, bw] w' := by
  have e1 : bits .or .u64 wd (c * 72057594037927936) = wd + c * 72057594037927936 := or_word 7 (by omega) h0 h1 c0 c1
  have hu : U64 (wd + c * 72057594037927936) := by unfold U64; omega
  have q1 := hS.drew.cell (i := 0) rfl
  have q2 := hW.drew.cell (i := 0) rfl
  have q3 := hW.drew.frozen 0
  generalize hX : wd + c * 72057594037927936 = X at e1 hu ⊢
  go_enter Tryd.func45, Tryd.ntmps45
  go_wp2
  go_region
  have W1 : Blk (w.setCell ⟨bw, 0, none⟩ (.int .u64 X)).drew bw 22 (one64 X) := (hW.set 0 _).drew
  have S1 : Blk (w.setCell ⟨bw, 0, none⟩ (.int .u64 X)).drew bs 3 (oneI 7) := (hS.far hsw).drew
  have H1 : Blk (w.setCell ⟨bw, 0, none⟩ (.int .u64 X)).drew bh 22 (one64 h) := (hH.far hhw).drew
  have F1 : Blk (w.setCell ⟨bw, 0, none⟩ (.int .u64 X)).drew bf 1 [.func (.func 44) #[] #[.pointer (some ⟨bs, 0, none⟩), .pointer (some ⟨bh, 0, none⟩), .pointer (some ⟨bw, 0, none⟩)]] := (hF.far hfw).drew
  have K1 : Kp w [bs, bh, bw] (w.setCell ⟨bw, 0, none⟩ (.int .u64 X)).drew := ((Kp.refl w _).set (.inr (by simp))).drew
  have R1 : Rnd (w.setCell ⟨bw, 0, none⟩ (.int .u64 X)).drew := by obtain ⟨tR, hR'⟩ := hR; exact ⟨tR, Blk.drew (Blk.far hR' (show 0 ≠ _ from hz.1))⟩
  generalize (w.setCell ⟨bw, 0, none⟩ (.int .u64 X)).drew = w1 at W1 S1 H1 F1 K1 R1 ⊢
  clear q1 q2 q3 e1 hS hW hH hF hR hX
  go_wp2_with (first
    | (refine wpl_loadf (by rfl) 3 _ (by rfl) bs 0 (by rfl) _ _ S1 _ rfl _ Tryd.underlying3 rfl ?_)
    | ((refine wpl_storeg (by rfl) 3 _ _ (by rfl) bs 0 (by rfl) (.int .i64 8) (by rfl) (by rfl) (by simp [Value.oneCell']) _ _ (oneI 8) S1 (by simp) sizeI64' (by rfl) ?_; intro w2 S2 s2 g2); (have W2 := W1.but g2 (Ne.symm hsw)); (have H2 := H1.but g2 (Ne.symm hsh)); (have F2 := F1.but g2 hfs); (have R2 := R1.but g2 hz.2); (have hM := mix1_yes bs bh bw 8 h X w2 (by omega) hh hu S2 H2 W2 R2 hsh hsw hhw))
    | (refine wpl_loadf (by rfl) 3 _ (by rfl) bs 0 (by rfl) _ _ S2 _ rfl _ Tryd.underlying3 rfl ?_)
    | (refine wpl_loadf (by rfl) 1 _ (by rfl) bf 0 (by rfl) _ _ F2 _ rfl _ Tryd.underlying1 rfl ?_)
    | (go_at_call 44; ((with_reducible refine hM.mono ?_); rintro e w3 ⟨rfl, S3, H3, W3, K3⟩)))
  exact bodyPost_end (v := .tuple #[]) (by simp [results, Tryd.results45]) rfl ⟨rfl, S3, W3, H3, (K1.but g2 (.inr (by simp))).trans K3⟩
end Go.Proofs.YtkgpeddncpdjjaaDoor
