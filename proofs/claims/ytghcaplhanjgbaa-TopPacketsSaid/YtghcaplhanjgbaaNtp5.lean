/- What ntpmsg.Decode answers at a bad header, and what the reference's Decode computes. -/
import Derived.Test.YtghcaplhanjgbaaNtp4
namespace Go.Proofs.Ytghcaplhanjgbaa
open Go.RowKit
set_option linter.unusedSimpArgs false
set_option linter.unusedVariables false
set_option maxRecDepth 100000
set_option maxRecDepth 100000 in
set_option maxHeartbeats 1000000 in
theorem decode_short (A : Option Addr) (n c : Nat) (w : World) (hlt : n < 48) :
    Calls Try.prog 10 #[.slice A n c] w fun e w' => e = .returned (.tuple #[ntp 0 0 0 0 0 0 0 0 0 0 0 0 0, .slice none 0 0, .int .i64 5]) ∧ Below w.heap.size w w' := by
  have h48 : (n : Int) < 48 := by omega
  go_enter Try.func10, Try.ntmps10
  go_wp2
  refine bodyPost_ret (v := .tuple #[ntp 0 0 0 0 0 0 0 0 0 0 0 0 0, .slice none 0 0, .int .i64 5]) (by simp [results, Try.results10, go_sem, *]) rfl ⟨rfl, ?_⟩
  (repeat (first | assumption | exact Below.refl _ _ | refine Below.drew ?_ | refine below_drewN ?_ _ | refine Below.setCell ?_ (by first | omega | (simp; done) | (simp <;> omega)) _ | refine Below.alloc ?_ (by first | omega | (simp; done) | (simp <;> omega)) _ | refine Below.trans ?_ (Below.mono (by assumption) (by first | omega | (simp; done) | (simp <;> omega)))))
set_option maxRecDepth 100000 in
set_option maxHeartbeats 2000000 in
theorem decode_kind (A : Option Addr) (n c : Nat) (l : List Int) (w : World) (hn : l.length = n) (h : Bs w 0 w.heap.size A l) (h48 : 48 ≤ n) (hm : n ≤ 140737488355328) (F : Int) (hF : fB l 0 1 = F) (hv : ¬(1 ≤ F / 8 % 8 ∧ F / 8 % 8 ≤ 4)) :
    Calls Try.prog 10 #[.slice A n c] w fun e w' => e = .returned (.tuple #[ntp 0 0 0 0 0 0 0 0 0 0 0 0 0, .slice none 0 0, .int .i64 8]) ∧ Below w.heap.size w w' := by
  have hbl := h.byt
  have hFr := fB_rng hbl 0 1
  rw [hF] at hFr
  have hF0 := hFr.1
  have hF1 : F ≤ 255 := by omega
  have ha1 := i64_and7 (F / 8)
  have ha2 := i64_and7 F
  have hwF : wrap64 F = F := by unfold wrap64; omega
  have hwF' : IntKind.i64.wrap F = F := by rw [IntKind.wrap_i64]; omega
  have hd : decide (1 ≤ F / 8 % 8 ∧ F / 8 % 8 ≤ 4) = false := decide_eq_false hv
  have h48' : (48 : Int) ≤ n := by omega
  obtain ⟨wz, hwz⟩ : ∃ wz, wz = w.alloc (.cells zeros13 25) := ⟨_, rfl⟩
  have hRz : wz.heap[w.heap.size]? = some (.cells zeros13 25 (0, 0)) := by rw [hwz]; exact heap_alloc_new w _
  have Bz : Below w.heap.size w wz := by rw [hwz]; exact (Below.refl _ w).alloc (Nat.le_refl _) _
  have sz : w.heap.size < wz.heap.size := by rw [hwz]; simp
  have hwz' := hwz.symm
  clear hwz hv
  go_enter Try.func10, Try.ntmps10
  go_wp2_with fail
  have hE := newReader_any A n c 0 w.heap.size l wz hn (h.below Bz (Nat.le_refl _)) (by omega) hm
  with_reducible refine hE.mono ?_
  rintro e w1 ⟨g, rfl, hR1, hgz, hb1⟩
  have hlo : wz.heap.size ≤ g := by obtain ⟨_, _, _, _, _, _, _, _, h, _⟩ := hR1; omega
  have hR1r := (hb1.block w.heap.size sz).trans hRz
  have B1 := Bz.trans (hb1.mono (by omega))
  have hg1 := hR1.lt
  clear hE hgz hb1 hRz hwz'
  have hE := uint_at _ g l 0 1 1 1 w1 (by simpa using hR1) (by omega) (by omega) (by omega) rfl rfl
  rw [hF] at hE
  go_wp2_with fail
  with_reducible refine hE.mono ?_
  rintro e w2 ⟨rfl, hR2, hg2, s2⟩
  have hR2r := blk_but hR1r hg2 (by omega) (by omega)
  have B2 := B1.trans (but_below hg2 (by omega) (by omega))
  clear hE hR1 hR1r B1 hg2
  obtain ⟨z0, hz0⟩ : ∃ z0, z0 = w2.alloc (.cells zeros13 25) := ⟨_, rfl⟩
  have hz0' := hz0.symm
  have ez : z0.heap[w2.heap.size]? = some (.cells zeros13 25 (0, 0)) := by rw [hz0]; exact heap_alloc_new w2 _
  have hgP : g < w2.heap.size := hR2.lt
  have hrP : w.heap.size < w2.heap.size := by omega
  have fz_ : z0.heap[w.heap.size]? = some (.cells zeros13 25 (0, 0)) := by rw [hz0]; exact (Below.heap_alloc w2 _ _ (by omega)).trans hR2r
  have bz : Below w.heap.size w z0 := by rw [hz0]; exact B2.alloc B2.size _
  obtain ⟨x0, hx0⟩ : ∃ x0, x0 = (((((((((((((z0.setCell ⟨w2.heap.size, 0, none⟩ (.int .i64 (F / 64))).setCell ⟨w2.heap.size, 1, none⟩ (.int .i64 (F / 8 % 8))).setCell ⟨w2.heap.size, 2, none⟩ (.int .i64 (F % 8))).setCell ⟨w2.heap.size, 3, none⟩ (.int .i64 0)).setCell ⟨w2.heap.size, 4, none⟩ (.int .i64 0)).setCell ⟨w2.heap.size, 5, none⟩ (.int .i64 0)).setCell ⟨w2.heap.size, 6, none⟩ (.int .u32 0)).setCell ⟨w2.heap.size, 7, none⟩ (.int .u32 0)).setCell ⟨w2.heap.size, 8, none⟩ (.int .u32 0)).setCell ⟨w2.heap.size, 9, none⟩ (.int .u64 0)).setCell ⟨w2.heap.size, 10, none⟩ (.int .u64 0)).setCell ⟨w2.heap.size, 11, none⟩ (.int .u64 0)).setCell ⟨w2.heap.size, 12, none⟩ (.int .u64 0)) := ⟨_, rfl⟩
  have hx0' := hx0.symm
  have e0 : x0.heap[w2.heap.size]? = some (.cells #[.int .i64 (F / 64), .int .i64 (F / 8 % 8), .int .i64 (F % 8), .int .i64 0, .int .i64 0, .int .i64 0, .int .u32 0, .int .u32 0, .int .u32 0, .int .u64 0, .int .u64 0, .int .u64 0, .int .u64 0] 25 (0, 0)) := by rw [hx0]; exact set13_heap ez
  have f0 : x0.heap[w.heap.size]? = some (.cells zeros13 25 (0, 0)) := by rw [hx0]; exact set13_blk (by omega) fz_
  have b0 : Below w.heap.size w x0 := by rw [hx0]; exact set13_below (by omega) bz
  obtain ⟨p0, p1, p2, p3, p4, p5, p6, p7, p8, p9, p10, p11, p12⟩ := cells13 ez
  have fzz := blk_frozen ez
  clear hz0 ez fz_ bz
  clear hx0 hR2 hR2r B2 s2
  obtain ⟨q0, q1, q2, q3, q4, q5, q6, q7, q8, q9, q10, q11, q12⟩ := cells13 e0
  have fz0 := blk_frozen e0
  obtain ⟨r0, r1, r2, r3, r4, r5, r6, r7, r8, r9, r10, r11, r12⟩ := cells13 f0
  have fr0 := blk_frozen f0
  go_wp2_with (first | (go_at_call 14; ((with_reducible refine (within_any _ _ _ _).mono ?_); rintro e w1 ⟨rfl, rfl⟩)))
  obtain ⟨x1, hx1⟩ : ∃ x1, x1 = (((((((((((((x0.setCell ⟨w.heap.size, 0, none⟩ (.int .i64 0)).setCell ⟨w.heap.size, 1, none⟩ (.int .i64 0)).setCell ⟨w.heap.size, 2, none⟩ (.int .i64 0)).setCell ⟨w.heap.size, 3, none⟩ (.int .i64 0)).setCell ⟨w.heap.size, 4, none⟩ (.int .i64 0)).setCell ⟨w.heap.size, 5, none⟩ (.int .i64 0)).setCell ⟨w.heap.size, 6, none⟩ (.int .u32 0)).setCell ⟨w.heap.size, 7, none⟩ (.int .u32 0)).setCell ⟨w.heap.size, 8, none⟩ (.int .u32 0)).setCell ⟨w.heap.size, 9, none⟩ (.int .u64 0)).setCell ⟨w.heap.size, 10, none⟩ (.int .u64 0)).setCell ⟨w.heap.size, 11, none⟩ (.int .u64 0)).setCell ⟨w.heap.size, 12, none⟩ (.int .u64 0)) := ⟨_, rfl⟩
  have f1 : x1.heap[w.heap.size]? = some (.cells zeros13 25 (0, 0)) := by rw [hx1]; exact set13_heap f0
  have b1 : Below w.heap.size w x1 := by rw [hx1]; exact set13_below (Nat.le_refl _) b0
  rw [hx1] at f1 b1
  obtain ⟨k0, k1, k2, k3, k4, k5, k6, k7, k8, k9, k10, k11, k12⟩ := cells13 f1
  refine bodyPost_ret (v := .tuple #[ntp 0 0 0 0 0 0 0 0 0 0 0 0 0, .slice none 0 0, .int .i64 8]) (by simp [results, Try.results10, go_sem, k0, k1, k2, k3, k4, k5, k6, k7, k8, k9, k10, k11, k12]) rfl ⟨rfl, b1⟩
theorem take_cutN (l : List Int) (a k : Nat) (h : a + k < l.length) : (l.drop a).take (k + 1) = (l.drop a).take k ++ [atB l (a + k)] := by
  rw [take_succ' _ k (by rw [List.length_drop]; omega)]
  congr 2
  simp [atB, List.getD_eq_getElem?_getD]
theorem fB_succ (l : List Int) (a k : Nat) (h : a + k < l.length) : fB l a (k + 1) = stepB (fB l a k) (atB l (a + k)) := by
  unfold fB
  rw [take_cutN l a k h]
  unfold numB
  rw [List.foldl_append]; rfl
theorem fB_zero (l : List Int) (a : Nat) : fB l a 0 = 0 := rfl
theorem fB_one {l : List Int} (hb : Byt l) (a : Nat) (h : a < l.length) : fB l a 1 = atB l a := by
  rw [fB_succ l a 0 (by omega), fB_zero]
  have := hb.at a
  unfold stepB; simp; omega
def sgnB (x : Int) : Int := if 127 < x then x - 256 else x
theorem iB_one {l : List Int} (hb : Byt l) (a : Nat) (h : a < l.length) : iB l a 1 = sgnB (atB l a) := by
  have h1 := fB_one hb a h
  have hl : ((l.drop a).take 1).length = 1 := by rw [List.length_take, List.length_drop]; omega
  unfold fB at h1
  unfold iB intB sgnB
  rw [hl, h1]
  have := hb.at a
  by_cases hx : 127 < atB l a
  · rw [if_pos hx, if_neg (by omega), if_neg (by omega)]; rfl
  · rw [if_neg hx, if_neg (by omega), if_pos (by omega)]
end Go.Proofs.Ytghcaplhanjgbaa
