/- What ntpmsg.Decode answers at a bad header, and what the reference's Decode computes. Plain laws on the bytes of headers: no function of the program occurs here. A list of extension fields that came in, opened. TopPackets (G9; P19, P20): for every input the law returns true, and its arguments read afterwards as before. No condition. Small lemmas about worlds for regions that draw their order. No function of the program occurs here. The tag of bytes under a key: what both Tags compute, and the contracts of the closures. The contracts of Tag and Derive, of the program and of the reference. What a function returns whose results lie in memory. No function of the program occurs here. -/
import Derived.Test.YtachhbbofemfdaaDoorGXz5
import Derived.Test.YtachhbbofemfdaaDoorGXz2
import Derived.Test.YtachhbbofemfdaaDoorGXz4
import Derived.Test.YtachhbbofemfdaaDoorGXz1
import Derived.Test.YtachhbbofemfdaaDoorGXz3
namespace Go.Proofs.YtachhbbofemfdaaDoor
open Go.RowKit
set_option linter.unusedSimpArgs false
set_option linter.unusedVariables false
set_option maxRecDepth 100000
set_option maxRecDepth 100000 in
set_option maxHeartbeats 1000000 in
theorem decode_short (A : Option Addr) (n c : Nat) (w : World) (hlt : n < 48) :
    Calls Tryd.prog 58 #[.slice A n c] w fun e w' => e = .returned (.tuple #[ntp 0 0 0 0 0 0 0 0 0 0 0 0 0, .slice none 0 0, .int .i64 5]) ∧ Below w.heap.size w w' := by
  have h48 : (n : Int) < 48 := by omega
  go_enter Tryd.func58, Tryd.ntmps58
  go_wp2
  refine bodyPost_ret (v := .tuple #[ntp 0 0 0 0 0 0 0 0 0 0 0 0 0, .slice none 0 0, .int .i64 5]) (by simp [results, Tryd.results58, go_sem, *]) rfl ⟨rfl, ?_⟩
  (repeat (first | assumption | exact Below.refl _ _ | refine Below.drew ?_ | refine below_drewN ?_ _ | refine Below.setCell ?_ (by first | omega | (simp; done) | (simp <;> omega)) _ | refine Below.alloc ?_ (by first | omega | (simp; done) | (simp <;> omega)) _ | refine Below.trans ?_ (Below.mono (by assumption) (by first | omega | (simp; done) | (simp <;> omega)))))
set_option maxRecDepth 100000 in
set_option maxHeartbeats 2000000 in
theorem decode_kind (A : Option Addr) (n c : Nat) (l : List Int) (w : World) (hn : l.length = n) (h : Bs w 0 w.heap.size A l) (h48 : 48 ≤ n) (hm : n ≤ 140737488355328) (F : Int) (hF : fB l 0 1 = F) (hv : ¬(1 ≤ F / 8 % 8 ∧ F / 8 % 8 ≤ 4)) :
    Calls Tryd.prog 58 #[.slice A n c] w fun e w' => e = .returned (.tuple #[ntp 0 0 0 0 0 0 0 0 0 0 0 0 0, .slice none 0 0, .int .i64 8]) ∧ Below w.heap.size w w' := by
  have hbl := h.byt
  have hFr := fB_rng hbl 0 1
  rw [hF] at hFr
  have hF0 := hFr.1
  have hF1 : F ≤ 255 := by omega
  have ha1 := i64_and7 (F / 8)
  have ha2 := i64_and7 F
  have hwF : wrap64 F = F := by unfold wrap64; omega
  have hwF' : IntKind.i64.wrap F = F := by rw [IntKind.wrap_i64]; omega
  have hd : decide (1 ≤ F / 8 % 8 ∧ F / 8 % 8 ≤ 4) = false := decide_eq_false hv
  have h48' : (48 : Int) ≤ n := by omega
  obtain ⟨wz, hwz⟩ : ∃ wz, wz = w.alloc (.cells zeros13 27) := ⟨_, rfl⟩
  have hRz : wz.heap[w.heap.size]? = some (.cells zeros13 27 (0, 0)) := by rw [hwz]; exact heap_alloc_new w _
  have Bz : Below w.heap.size w wz := by rw [hwz]; exact (Below.refl _ w).alloc (Nat.le_refl _) _
  have sz : w.heap.size < wz.heap.size := by rw [hwz]; simp
  have hwz' := hwz.symm
  clear hwz hv
  go_enter Tryd.func58, Tryd.ntmps58
  go_wp2_with fail
  have hE := newReader_any A n c 0 w.heap.size l wz hn (h.below Bz (Nat.le_refl _)) (by omega) hm
  with_reducible refine hE.mono ?_
  rintro e w1 ⟨g, rfl, hR1, hgz, hb1⟩
  have hlo : wz.heap.size ≤ g := by obtain ⟨_, _, _, _, _, _, _, _, h, _⟩ := hR1; omega
  have hR1r := (hb1.block w.heap.size sz).trans hRz
  have B1 := Bz.trans (hb1.mono (by omega))
  have hg1 := hR1.lt
  clear hE hgz hb1 hRz hwz'
  have hE := uint_at _ g l 0 1 1 1 w1 (by simpa using hR1) (by omega) (by omega) (by omega) rfl rfl
  rw [hF] at hE
  go_wp2_with fail
  with_reducible refine hE.mono ?_
  rintro e w2 ⟨rfl, hR2, hg2, s2⟩
  have hR2r := blk_but hR1r hg2 (by omega) (by omega)
  have B2 := B1.trans (but_below hg2 (by omega) (by omega))
  clear hE hR1 hR1r B1 hg2
  obtain ⟨z0, hz0⟩ : ∃ z0, z0 = w2.alloc (.cells zeros13 27) := ⟨_, rfl⟩
  have hz0' := hz0.symm
  have ez : z0.heap[w2.heap.size]? = some (.cells zeros13 27 (0, 0)) := by rw [hz0]; exact heap_alloc_new w2 _
  have hgP : g < w2.heap.size := hR2.lt
  have hrP : w.heap.size < w2.heap.size := by omega
  have fz_ : z0.heap[w.heap.size]? = some (.cells zeros13 27 (0, 0)) := by rw [hz0]; exact (Below.heap_alloc w2 _ _ (by omega)).trans hR2r
  have bz : Below w.heap.size w z0 := by rw [hz0]; exact B2.alloc B2.size _
  obtain ⟨x0, hx0⟩ : ∃ x0, x0 = (((((((((((((z0.setCell ⟨w2.heap.size, 0, none⟩ (.int .i64 (F / 64))).setCell ⟨w2.heap.size, 1, none⟩ (.int .i64 (F / 8 % 8))).setCell ⟨w2.heap.size, 2, none⟩ (.int .i64 (F % 8))).setCell ⟨w2.heap.size, 3, none⟩ (.int .i64 0)).setCell ⟨w2.heap.size, 4, none⟩ (.int .i64 0)).setCell ⟨w2.heap.size, 5, none⟩ (.int .i64 0)).setCell ⟨w2.heap.size, 6, none⟩ (.int .u32 0)).setCell ⟨w2.heap.size, 7, none⟩ (.int .u32 0)).setCell ⟨w2.heap.size, 8, none⟩ (.int .u32 0)).setCell ⟨w2.heap.size, 9, none⟩ (.int .u64 0)).setCell ⟨w2.heap.size, 10, none⟩ (.int .u64 0)).setCell ⟨w2.heap.size, 11, none⟩ (.int .u64 0)).setCell ⟨w2.heap.size, 12, none⟩ (.int .u64 0)) := ⟨_, rfl⟩
  have hx0' := hx0.symm
  have e0 : x0.heap[w2.heap.size]? = some (.cells #[.int .i64 (F / 64), .int .i64 (F / 8 % 8), .int .i64 (F % 8), .int .i64 0, .int .i64 0, .int .i64 0, .int .u32 0, .int .u32 0, .int .u32 0, .int .u64 0, .int .u64 0, .int .u64 0, .int .u64 0] 27 (0, 0)) := by rw [hx0]; exact set13_heap ez
  have f0 : x0.heap[w.heap.size]? = some (.cells zeros13 27 (0, 0)) := by rw [hx0]; exact set13_blk (by omega) fz_
  have b0 : Below w.heap.size w x0 := by rw [hx0]; exact set13_below (by omega) bz
  obtain ⟨p0, p1, p2, p3, p4, p5, p6, p7, p8, p9, p10, p11, p12⟩ := cells13 ez
  have fzz := blk_frozen ez
  clear hz0 ez fz_ bz
  clear hx0 hR2 hR2r B2 s2
  obtain ⟨q0, q1, q2, q3, q4, q5, q6, q7, q8, q9, q10, q11, q12⟩ := cells13 e0
  have fz0 := blk_frozen e0
  obtain ⟨r0, r1, r2, r3, r4, r5, r6, r7, r8, r9, r10, r11, r12⟩ := cells13 f0
  have fr0 := blk_frozen f0
  go_wp2_with (first | (go_at_call 70; ((with_reducible refine (within_any _ _ _ _).mono ?_); rintro e w1 ⟨rfl, rfl⟩)))
  obtain ⟨x1, hx1⟩ : ∃ x1, x1 = (((((((((((((x0.setCell ⟨w.heap.size, 0, none⟩ (.int .i64 0)).setCell ⟨w.heap.size, 1, none⟩ (.int .i64 0)).setCell ⟨w.heap.size, 2, none⟩ (.int .i64 0)).setCell ⟨w.heap.size, 3, none⟩ (.int .i64 0)).setCell ⟨w.heap.size, 4, none⟩ (.int .i64 0)).setCell ⟨w.heap.size, 5, none⟩ (.int .i64 0)).setCell ⟨w.heap.size, 6, none⟩ (.int .u32 0)).setCell ⟨w.heap.size, 7, none⟩ (.int .u32 0)).setCell ⟨w.heap.size, 8, none⟩ (.int .u32 0)).setCell ⟨w.heap.size, 9, none⟩ (.int .u64 0)).setCell ⟨w.heap.size, 10, none⟩ (.int .u64 0)).setCell ⟨w.heap.size, 11, none⟩ (.int .u64 0)).setCell ⟨w.heap.size, 12, none⟩ (.int .u64 0)) := ⟨_, rfl⟩
  have f1 : x1.heap[w.heap.size]? = some (.cells zeros13 27 (0, 0)) := by rw [hx1]; exact set13_heap f0
  have b1 : Below w.heap.size w x1 := by rw [hx1]; exact set13_below (Nat.le_refl _) b0
  rw [hx1] at f1 b1
  obtain ⟨k0, k1, k2, k3, k4, k5, k6, k7, k8, k9, k10, k11, k12⟩ := cells13 f1
  refine bodyPost_ret (v := .tuple #[ntp 0 0 0 0 0 0 0 0 0 0 0 0 0, .slice none 0 0, .int .i64 8]) (by simp [results, Tryd.results58, go_sem, k0, k1, k2, k3, k4, k5, k6, k7, k8, k9, k10, k11, k12]) rfl ⟨rfl, b1⟩
theorem take_cutN (l : List Int) (a k : Nat) (h : a + k < l.length) : (l.drop a).take (k + 1) = (l.drop a).take k ++ [atB l (a + k)] := by
  rw [take_succ' _ k (by rw [List.length_drop]; omega)]
  congr 2
  simp [atB, List.getD_eq_getElem?_getD]
theorem fB_succ (l : List Int) (a k : Nat) (h : a + k < l.length) : fB l a (k + 1) = stepB (fB l a k) (atB l (a + k)) := by
  unfold fB
  rw [take_cutN l a k h]
  unfold numB
  rw [List.foldl_append]; rfl
theorem fB_zero (l : List Int) (a : Nat) : fB l a 0 = 0 := rfl
theorem fB_one {l : List Int} (hb : Byt l) (a : Nat) (h : a < l.length) : fB l a 1 = atB l a := by
  rw [fB_succ l a 0 (by omega), fB_zero]
  have := hb.at a
  unfold stepB; simp; omega
def sgnB (x : Int) : Int := if 127 < x then x - 256 else x
theorem iB_one {l : List Int} (hb : Byt l) (a : Nat) (h : a < l.length) : iB l a 1 = sgnB (atB l a) := by
  have h1 := fB_one hb a h
  have hl : ((l.drop a).take 1).length = 1 := by rw [List.length_take, List.length_drop]; omega
  unfold fB at h1
  unfold iB intB sgnB
  rw [hl, h1]
  have := hb.at a
  by_cases hx : 127 < atB l a
  · rw [if_pos hx, if_neg (by omega), if_neg (by omega)]; rfl
  · rw [if_neg hx, if_neg (by omega), if_pos (by omega)]
set_option maxHeartbeats 1000000 in
theorem rgetb_any (A : Option Addr) (n c lo hi : Nat) (l : List Int) (a s : Nat) (ai si : Int) (w : World) (hn : l.length = n) (h : Bs w lo hi A l) (hai : ((a : Nat) : Int) = ai) (hsi : ((s : Nat) : Int) = si) (hs1 : 1 ≤ s) (hs : a + s ≤ n) (hc : n ≤ 140737488355328) :
    Calls Tryd.prog 95 #[.slice A n c, .int .i64 ai, .int .i64 si] w fun e w' => e = .returned (.int .u64 (fB l a s)) ∧ w = w' := by
  subst hai hsi hn
  obtain ⟨b, o, rfl, _, _, hc'⟩ := h.at (by omega)
  go_enter Tryd.func95, Tryd.ntmps95
  go_wp2
  go_loop [7, 8] (fun n i => ∃ k : Nat, k ≤ s ∧ i = .int .i64 k ∧ n = .int .u64 (fB l a k)) (fun _ i => s - (intOf i).toNat)
  case atStart => exact ⟨0, by omega, rfl, rfl⟩
  case round =>
    obtain ⟨k, hk, rfl, rfl⟩ := hrel
    by_cases hlt : k < s
    · have hck := hc' (a + k) (by omega)
      have hby := h.byt.at (a + k)
      have hS := fB_succ l a k (by omega)
      have hr := numB_range ((l.drop a).take k)
      have hO : IntKind.u64.wrap (IntKind.u64.wrap (fB l a k * 256) + atB l (a + k)) = stepB (fB l a k) (atB l (a + k)) := by
        rw [IntKind.wrap_u64, IntKind.wrap_u64]; unfold stepB; omega
      have hw : IntKind.u64.wrap (atB l (a + k)) = atB l (a + k) := by rw [IntKind.wrap_u64]; omega
      have hak : IntKind.i64.wrap ((a : Int) + k) = a + k := IntWalk.i64_in _ (by omega)
      have h1 : (0 : Int) ≤ (a : Int) + k := by omega
      have h2 : (a : Int) + k < l.length := by omega
      go_wp2
      exact ⟨⟨k + 1, by omega, by go_num, by rw [hS]⟩, by simp [intOf]; omega⟩
    · obtain rfl : k = s := by omega
      go_wp2
      go_ret
      exact ⟨rfl, rfl⟩
theorem signed_any (x : Int) (w : World) (h0 : 0 ≤ x) (h1 : x ≤ 255) : Calls Tryd.prog 94 #[.int .u8 x] w fun e w' => e = .returned (.int .i64 (sgnB x)) ∧ w = w' := by
  have e1 : IntKind.i64.wrap x = x := by rw [IntKind.wrap_i64]; omega
  have e2 : IntKind.i64.wrap (x - 256) = x - 256 := by rw [IntKind.wrap_i64]; omega
  have e3 : wrap64 x = x := by unfold wrap64; omega
  have e4 : wrap64 (x - 256) = x - 256 := by unfold wrap64; omega
  by_cases hx : 127 < x
  · have hS : Hid (sgnB x = x - 256) := if_pos hx
    go_enter Tryd.func94, Tryd.ntmps94
    go_wp2
    go_ret
    exact ⟨ret_int hS.out.symm, rfl⟩
  · have hS : Hid (sgnB x = x) := if_neg hx
    have hx' : x ≤ 127 := by omega
    go_enter Tryd.func94, Tryd.ntmps94
    go_wp2
    go_ret
    exact ⟨ret_int hS.out.symm, rfl⟩
end Go.Proofs.YtachhbbofemfdaaDoor
namespace Go.Proofs.YtachhbbofemfdaaDoor
open Go.RowKit
set_option linter.unusedSimpArgs false
set_option linter.unusedVariables false
set_option maxRecDepth 100000
theorem numB_appN (l : List Int) (x : Int) : numB (l ++ [x]) = stepB (numB l) x := by unfold numB; rw [List.foldl_append]; rfl
theorem numB_bytesN (k : Nat) : ∀ n : Int, 0 ≤ n → n < 256 ^ k → n < 18446744073709551616 → numB (bytesB k n) = n := by
  induction k with
  | zero => intro n h0 h1 _; simp at h1; simp [bytesB, numB]; omega
  | succ k ih =>
    intro n h0 h1 h2
    have h3 : n / 256 < 256 ^ k := by rw [Int.pow_succ] at h1; omega
    rw [bytesB, numB_appN, ih (n / 256) (by omega) h3 (by omega)]
    unfold stepB; omega
theorem fB_skip (a m : List Int) (o s n : Nat) (ha : a.length = n) : fB (a ++ m) (n + o) s = fB m o s := by
  unfold fB
  rw [List.drop_append, List.drop_eq_nil_of_le (by omega), List.nil_append, show n + o - a.length = o by omega]
theorem iB_skip (a m : List Int) (o s n : Nat) (ha : a.length = n) : iB (a ++ m) (n + o) s = iB m o s := by
  unfold iB
  rw [List.drop_append, List.drop_eq_nil_of_le (by omega), List.nil_append, show n + o - a.length = o by omega]
theorem fB_head (s : Nat) (n : Int) (m : List Int) (h0 : 0 ≤ n) (h1 : n < 256 ^ s) (h2 : n < 18446744073709551616) : fB (bytesB s n ++ m) 0 s = n := by
  unfold fB
  rw [List.drop_zero, List.take_append_of_le_length (by rw [bytesB_length]; exact Nat.le_refl _), List.take_of_length_le (by rw [bytesB_length]; exact Nat.le_refl _), numB_bytesN s n h0 h1 h2]
theorem iB_head (n : Int) (m : List Int) (h0 : -128 ≤ n) (h1 : n ≤ 127) : iB (bytesB 1 (n % 256) ++ m) 0 1 = n := by
  unfold iB
  rw [List.drop_zero, List.take_append_of_le_length (by rw [bytesB_length]; exact Nat.le_refl _), List.take_of_length_le (by rw [bytesB_length]; exact Nat.le_refl _)]
  unfold intB
  rw [numB_bytesN 1 _ (by omega) (by simp; omega) (by omega), bytesB_length]
  rw [if_neg (by omega)]
  split <;> simp at * <;> omega
/-- what is read from the bytes of a header is that header -/
theorem encH_back (l v m st po pr rd rp id ref org rec xmt : Int) (beh : List Int) (hk : nchk l v m st po pr = 0) (h6 : 0 ≤ rd ∧ rd ≤ 4294967295) (h7 : 0 ≤ rp ∧ rp ≤ 4294967295) (h8 : 0 ≤ id ∧ id ≤ 4294967295)
    (h9 : 0 ≤ ref ∧ ref ≤ 18446744073709551615) (h10 : 0 ≤ org ∧ org ≤ 18446744073709551615) (h11 : 0 ≤ rec ∧ rec ≤ 18446744073709551615) (h12 : 0 ≤ xmt ∧ xmt ≤ 18446744073709551615) :
    ∃ L, L = encH l v m st po pr rd rp id ref org rec xmt ++ beh ∧ fB L 0 1 = l * 64 + v * 8 + m ∧ fB L 1 1 = st ∧ iB L 2 1 = po ∧ iB L 3 1 = pr ∧ fB L 4 4 = rd ∧ fB L 8 4 = rp ∧ fB L 12 4 = id ∧ fB L 16 8 = ref ∧ fB L 24 8 = org ∧ fB L 32 8 = rec ∧ fB L 40 8 = xmt ∧ L.drop 48 = beh := by
  obtain ⟨kl, kv, km, kst, kpo, kpr⟩ := nchk_ok hk
  refine ⟨_, rfl, ?_⟩
  have e : encH l v m st po pr rd rp id ref org rec xmt ++ beh = bytesB 1 (l * 64 + v * 8 + m) ++ (bytesB 1 st ++ (bytesB 1 (po % 256) ++ (bytesB 1 (pr % 256) ++ (bytesB 4 rd ++ (bytesB 4 rp ++ (bytesB 4 id ++ (bytesB 8 ref ++ (bytesB 8 org ++ (bytesB 8 rec ++ (bytesB 8 xmt ++ beh)))))))))) := by
    simp only [encH, ntpPairs, encB, List.flatMap_cons, List.flatMap_nil, List.append_nil, List.append_assoc]
  have hd : (encH l v m st po pr rd rp id ref org rec xmt ++ beh).drop 48 = beh := by
    rw [List.drop_append, List.drop_eq_nil_of_le (by rw [encH_len]; exact Nat.le_refl _), encH_len]; simp
  refine ⟨?_, ?_, ?_, ?_, ?_, ?_, ?_, ?_, ?_, ?_, ?_, hd⟩
  all_goals rw [e]
  · exact fB_head 1 _ _ (by omega) (by simp; omega) (by omega)
  · rw [fB_skip _ _ 0 1 1 (bytesB_length _ _)]; exact fB_head 1 _ _ (by omega) (by simp; omega) (by omega)
  · rw [iB_skip _ _ 1 1 1 (bytesB_length _ _), iB_skip _ _ 0 1 1 (bytesB_length _ _)]; exact iB_head _ _ kpo.1 kpo.2
  · rw [iB_skip _ _ 2 1 1 (bytesB_length _ _), iB_skip _ _ 1 1 1 (bytesB_length _ _), iB_skip _ _ 0 1 1 (bytesB_length _ _)]; exact iB_head _ _ kpr.1 kpr.2
  · rw [fB_skip _ _ 3 4 1 (bytesB_length _ _), fB_skip _ _ 2 4 1 (bytesB_length _ _), fB_skip _ _ 1 4 1 (bytesB_length _ _), fB_skip _ _ 0 4 1 (bytesB_length _ _)]; exact fB_head 4 _ _ (by omega) (by simp; omega) (by omega)
  · rw [fB_skip _ _ 7 4 1 (bytesB_length _ _), fB_skip _ _ 6 4 1 (bytesB_length _ _), fB_skip _ _ 5 4 1 (bytesB_length _ _), fB_skip _ _ 4 4 1 (bytesB_length _ _), fB_skip _ _ 0 4 4 (bytesB_length _ _)]; exact fB_head 4 _ _ (by omega) (by simp; omega) (by omega)
  · rw [fB_skip _ _ 11 4 1 (bytesB_length _ _), fB_skip _ _ 10 4 1 (bytesB_length _ _), fB_skip _ _ 9 4 1 (bytesB_length _ _), fB_skip _ _ 8 4 1 (bytesB_length _ _), fB_skip _ _ 4 4 4 (bytesB_length _ _), fB_skip _ _ 0 4 4 (bytesB_length _ _)]; exact fB_head 4 _ _ (by omega) (by simp; omega) (by omega)
  · rw [fB_skip _ _ 15 8 1 (bytesB_length _ _), fB_skip _ _ 14 8 1 (bytesB_length _ _), fB_skip _ _ 13 8 1 (bytesB_length _ _), fB_skip _ _ 12 8 1 (bytesB_length _ _), fB_skip _ _ 8 8 4 (bytesB_length _ _), fB_skip _ _ 4 8 4 (bytesB_length _ _), fB_skip _ _ 0 8 4 (bytesB_length _ _)]; exact fB_head 8 _ _ (by omega) (by simp; omega) (by omega)
  · rw [fB_skip _ _ 23 8 1 (bytesB_length _ _), fB_skip _ _ 22 8 1 (bytesB_length _ _), fB_skip _ _ 21 8 1 (bytesB_length _ _), fB_skip _ _ 20 8 1 (bytesB_length _ _), fB_skip _ _ 16 8 4 (bytesB_length _ _), fB_skip _ _ 12 8 4 (bytesB_length _ _), fB_skip _ _ 8 8 4 (bytesB_length _ _), fB_skip _ _ 0 8 8 (bytesB_length _ _)]; exact fB_head 8 _ _ (by omega) (by simp; omega) (by omega)
  · rw [fB_skip _ _ 31 8 1 (bytesB_length _ _), fB_skip _ _ 30 8 1 (bytesB_length _ _), fB_skip _ _ 29 8 1 (bytesB_length _ _), fB_skip _ _ 28 8 1 (bytesB_length _ _), fB_skip _ _ 24 8 4 (bytesB_length _ _), fB_skip _ _ 20 8 4 (bytesB_length _ _), fB_skip _ _ 16 8 4 (bytesB_length _ _), fB_skip _ _ 8 8 8 (bytesB_length _ _), fB_skip _ _ 0 8 8 (bytesB_length _ _)]; exact fB_head 8 _ _ (by omega) (by simp; omega) (by omega)
  · rw [fB_skip _ _ 39 8 1 (bytesB_length _ _), fB_skip _ _ 38 8 1 (bytesB_length _ _), fB_skip _ _ 37 8 1 (bytesB_length _ _), fB_skip _ _ 36 8 1 (bytesB_length _ _), fB_skip _ _ 32 8 4 (bytesB_length _ _), fB_skip _ _ 28 8 4 (bytesB_length _ _), fB_skip _ _ 24 8 4 (bytesB_length _ _), fB_skip _ _ 16 8 8 (bytesB_length _ _), fB_skip _ _ 8 8 8 (bytesB_length _ _), fB_skip _ _ 0 8 8 (bytesB_length _ _)]; exact fB_head 8 _ _ (by omega) (by simp; omega) (by omega)
end Go.Proofs.YtachhbbofemfdaaDoor
namespace Go.Proofs.YtachhbbofemfdaaDoor
open Go.ChangeShapes Go.WideShapes Go.ChangeAt Go.RowKit Go.Joins
set_option linter.unusedSimpArgs false
set_option linter.unusedVariables false
set_option maxRecDepth 100000
section
variable {H : Type} {enc : TypeId × Value → H}
/-- one field, from its cells -/
theorem ext_cells {W : World} {fuel : Nat} {cs : List Value} {x : DataW H × List MemPlace} (h : DataW.trod enc Tryd.prog W 0 (fun _ => true) true fuel 62 cs = some x) :
    ∃ (kd : Int) (A : Option Addr) (c : Nat) (dt : List Int), cs = [.int .i64 kd, .slice A dt.length c] ∧ Bs W 0 W.heap.size A dt ∧ dt.length ≤ c ∧ c ≤ 9223372036854775807 ∧ (A = none → dt.length = 0 ∧ c = 0) ∧ (0 < c → c ∈ x.1.weights Tryd.prog 62) := by
  obtain ⟨xs, n, _, hx, hl, hxl, hg⟩ := DataW.trod_struct Tryd.underlying62 h
  rw [cellsExt] at hl
  match cs, hl with
  | [c0, c1], _ =>
    match xs, hxl with
    | [y0, y1], _ =>
      have g0 := hg 0 _ rfl
      have g1 := hg 1 _ rfl
      simp [cellsI64, cellsSl8] at g0 g1
      obtain ⟨kd, e0, _, _⟩ := DataW.trod_int Tryd.underlying3 g0
      obtain ⟨A, n', c, l, e1, hn, hB, h1, h2, h3, h4⟩ := cell_bs (fun _ => rfl) g1
      subst hn e1
      simp at e0
      subst e0
      refine ⟨kd, A, c, l, rfl, hB, h1, h2, h3, fun hc => ?_⟩
      rw [hx]
      rw [DataW.weights, Tryd.underlying62]
      exact DataW.weights_mem_each (j := 1) (t := 23) (d := y1.1) rfl rfl c (h4 hc)
end
end Go.Proofs.YtachhbbofemfdaaDoor
namespace Go.Proofs.YtachhbbofemfdaaDoor
open Go.ChangeShapes Go.WideShapes Go.ChangeAt Go.RowKit Go.Joins
set_option linter.unusedSimpArgs false
set_option linter.unusedVariables false
set_option maxRecDepth 100000
theorem auth_len (id tag : Int) : (bytesB 4 id ++ bytesB 8 tag).length = 12 := by simp [bytesB_length]
theorem auth_id {id : Int} (tag : Int) (h0 : 0 ≤ id) (h1 : id ≤ 4294967295) : numB ((bytesB 4 id ++ bytesB 8 tag).take 4) = id := by
  rw [List.take_left' (bytesB_length _ _)]
  exact numB_bytesB' 4 id h0 (by have := (show (256 : Int) ^ 4 = 4294967296 from by decide); omega) (by omega)
theorem auth_tag (id : Int) {tag : Int} (h0 : 0 ≤ tag) (h1 : tag ≤ 18446744073709551615) : numB (((bytesB 4 id ++ bytesB 8 tag).drop 4).take 8) = tag := by
  rw [List.drop_left' (bytesB_length _ _), List.take_of_length_le (by simp [bytesB_length])]
  exact numB_bytesB' 8 tag h0 (by have := (show (256 : Int) ^ 8 = 18446744073709551616 from by decide); omega) (by omega)
end Go.Proofs.YtachhbbofemfdaaDoor
namespace Go.Proofs.YtachhbbofemfdaaDoor
open Go.RowKit
set_option linter.unusedSimpArgs false
set_option linter.unusedVariables false
set_option maxRecDepth 100000
theorem Blk.far {w : World} {b : Nat} {t : TypeId} {cs : List Value} {p : Addr} {u : Value} (h : Blk w b t cs) (hne : b ≠ p.block) : Blk (w.setCell p u) b t cs := (Below.heap_setCell w p u b hne).trans h
end Go.Proofs.YtachhbbofemfdaaDoor
namespace Go.Proofs.YtachhbbofemfdaaDoor
open Go.RowKit
set_option linter.unusedSimpArgs false
set_option linter.unusedVariables false
set_option maxRecDepth 100000
/-- bytes as a number, the least first -/
def wordF : List Int → Int
  | [] => 0
  | x :: r => x + 256 * wordF r
theorem wordF_app (l : List Int) (x : Int) : wordF (l ++ [x]) = wordF l + x * 256 ^ l.length := by
  induction l with
  | nil => simp [wordF]
  | cons y r ih =>
    simp only [List.cons_append, wordF, ih, List.length_cons, Int.pow_succ]
    rw [Int.mul_add, Int.add_assoc]
    congr 2
    rw [Int.mul_comm (256 ^ r.length) 256, ← Int.mul_assoc, ← Int.mul_assoc, Int.mul_comm 256 x]
theorem wordF_rng {l : List Int} (h : Byt l) : 0 ≤ wordF l ∧ wordF l < 256 ^ l.length := by
  induction l with
  | nil => simp [wordF]
  | cons x r ih =>
    have h0 := h x (by simp)
    obtain ⟨h1, h2⟩ := ih fun y hy => h y (by simp [hy])
    simp only [wordF, List.length_cons, Int.pow_succ]
    omega
/-- behind q words of eight bytes -/
def hsF (h0 : Int) (l : List Int) : Nat → Int
  | 0 => h0
  | q + 1 => mixF (hsF h0 l q) (wordF ((l.drop (8 * q)).take 8))
def tagF (k0 k1 : Int) (l : List Int) : Int := mixF (hsF (mixF k0 k1) l ((l.length + 7) / 8)) l.length
theorem hsF_u64 {h0 : Int} (h : U64 h0) (l : List Int) (q : Nat) : U64 (hsF h0 l q) := by
  cases q with
  | zero => exact h
  | succ q => exact mixF_u64 _ _
theorem word_take {l : List Int} (k : Nat) (hk : k < l.length) : wordF (l.take (k + 1)) = wordF (l.take k) + atB l k * 256 ^ k := by
  rw [take_succ' l k hk, wordF_app, List.length_take, Nat.min_eq_left (by omega)]
theorem pow8_le {k : Nat} (h : k ≤ 8) : (256 : Int) ^ k ≤ 18446744073709551616 := by
  have : k = 0 ∨ k = 1 ∨ k = 2 ∨ k = 3 ∨ k = 4 ∨ k = 5 ∨ k = 6 ∨ k = 7 ∨ k = 8 := by omega
  rcases this with rfl | rfl | rfl | rfl | rfl | rfl | rfl | rfl | rfl <;> decide
theorem word_u64 {l : List Int} (h : Byt l) (hl : l.length ≤ 8) : U64 (wordF l) := by
  obtain ⟨h0, h1⟩ := wordF_rng h
  have := pow8_le hl
  unfold U64
  omega
abbrev one64 (x : Int) : List Value := [.int .u64 x]
abbrev oneI (x : Int) : List Value := [.int .i64 x]
theorem sizeU64' : (Tryd.prog.info? 22).map (·.size) = some 1 := by kernel_rfl
theorem sizeI64' : (Tryd.prog.info? 3).map (·.size) = some 1 := by kernel_rfl
set_option maxHeartbeats 4000000 in
theorem mix1_no (bs bh bw : Nat) (w : World) (hS : Blk w bs 3 (oneI 0)) :
    Calls Tryd.prog 97 #[.pointer (some ⟨bs, 0, none⟩), .pointer (some ⟨bh, 0, none⟩), .pointer (some ⟨bw, 0, none⟩)] w fun e w' => e = .returned (.tuple #[]) ∧ w = w' := by
  go_enter Tryd.func97, Tryd.ntmps97
  go_wp2_with (first | (refine wpl_loadf (by rfl) 3 _ (by rfl) bs 0 (by rfl) _ _ hS _ rfl _ Tryd.underlying3 rfl ?_))
  exact bodyPost_end (v := .tuple #[]) (by simp [results, Tryd.results97]) rfl ⟨rfl, rfl⟩
set_option maxHeartbeats 4000000 in
theorem mix1_yes (bs bh bw : Nat) (s h wd : Int) (w : World) (hs : 0 < s) (hh : U64 h) (hwd : U64 wd) (hS : Blk w bs 3 (oneI s)) (hH : Blk w bh 22 (one64 h)) (hW : Blk w bw 22 (one64 wd)) (hR : Rnd w) (h1 : bs ≠ bh) (h2 : bs ≠ bw) (h3 : bh ≠ bw) :
    Calls Tryd.prog 97 #[.pointer (some ⟨bs, 0, none⟩), .pointer (some ⟨bh, 0, none⟩), .pointer (some ⟨bw, 0, none⟩)] w fun e w' => e = .returned (.tuple #[]) ∧ Blk w' bs 3 (oneI 0) ∧ Blk w' bh 22 (one64 (mixF h wd)) ∧ Blk w' bw 22 (one64 0) ∧ Kp w [bs, bh, bw] w' := by
  have d0 : decide (0 < s) = true := decide_eq_true hs
  have l1 := hS.lt
  have l2 := hH.lt
  have l3 := hW.lt
  have hM := mix_any h wd w hh hwd hR
  clear hs hh hwd
  go_enter Tryd.func97, Tryd.ntmps97
  go_wp2_with (first
    | (refine wpl_loadf (by rfl) 3 _ (by rfl) bs 0 (by rfl) _ _ hS _ rfl _ Tryd.underlying3 rfl ?_)
    | (refine wpl_loadf (by rfl) 22 _ (by rfl) bh 0 (by rfl) _ _ hH _ rfl _ Tryd.underlying22 rfl ?_)
    | (refine wpl_loadf (by rfl) 22 _ (by rfl) bw 0 (by rfl) _ _ hW _ rfl _ Tryd.underlying22 rfl ?_)
    | (go_at_call 81; ((with_reducible refine hM.mono ?_); rintro e w1 ⟨rfl, b1⟩; (have S1 := hS.below b1 l1); (have H1 := hH.below b1 l2); (have W1 := hW.below b1 l3)))
    | ((refine wpl_storeg (by rfl) 22 _ _ (by rfl) bh 0 (by rfl) (.int .u64 (mixF h wd)) (by rfl) (by rfl) (by simp [Value.oneCell']) _ _ (one64 (mixF h wd)) H1 (by simp) sizeU64' (by rfl) ?_; intro w2 H2 s2 g2); (have S2 := S1.but g2 h1); (have W2 := W1.but g2 (Ne.symm h3)))
    | ((refine wpl_storeg (by rfl) 22 _ _ (by rfl) bw 0 (by rfl) (.int .u64 0) (by rfl) (by rfl) (by simp [Value.oneCell']) _ _ (one64 0) W2 (by simp) sizeU64' (by rfl) ?_; intro w3 W3 s3 g3); (have S3 := S2.but g3 h2); (have H3 := H2.but g3 h3))
    | ((refine wpl_storeg (by rfl) 3 _ _ (by rfl) bs 0 (by rfl) (.int .i64 0) (by rfl) (by rfl) (by simp [Value.oneCell']) _ _ (oneI 0) S3 (by simp) sizeI64' (by rfl) ?_; intro w4 S4 s4 g4)))
  exact bodyPost_end (v := .tuple #[]) (by simp [results, Tryd.results97]) rfl ⟨rfl, S4, H3.but g4 (Ne.symm h1), W3.but g4 (Ne.symm h2), (((Kp.of_below b1).but g2 (.inr (by simp))).but g3 (.inr (by simp))).but g4 (.inr (by simp))⟩
/-- eight bytes at most: the next one goes above -/
theorem or_word {wd c : Int} (s : Nat) (hs : s < 8) (h0 : 0 ≤ wd) (h1 : wd < 256 ^ s) (c0 : 0 ≤ c) (c1 : c ≤ 255) : bits .or .u64 wd (c * 256 ^ s) = wd + c * 256 ^ s := by
  obtain ⟨a, rfl⟩ : ∃ a : Nat, wd = a := ⟨wd.toNat, by omega⟩
  obtain ⟨b, rfl⟩ : ∃ b : Nat, c = b := ⟨c.toNat, by omega⟩
  have e : ((b : Int) * 256 ^ s) = ((b * 256 ^ s : Nat) : Int) := by simp
  have ha : a < 256 ^ s := by exact_mod_cast h1
  have hb : b * 256 ^ s ≤ 255 * 256 ^ s := Nat.mul_le_mul_right _ (by omega)
  have hp : 256 ^ s * 256 ≤ 18446744073709551616 := by
    have : s = 0 ∨ s = 1 ∨ s = 2 ∨ s = 3 ∨ s = 4 ∨ s = 5 ∨ s = 6 ∨ s = 7 := by omega
    rcases this with rfl | rfl | rfl | rfl | rfl | rfl | rfl | rfl <;> decide
  rw [e, Go.u64_or _ _ (by omega) (by omega) (by omega) (by omega)]
  have h3 := Nat.two_pow_add_eq_or_of_lt (b := a) (i := 8 * s) (by rw [Nat.pow_mul]; exact ha) b
  rw [Nat.pow_mul, show (2 : Nat) ^ 8 = 256 from rfl] at h3
  simp only [Int.toNat_natCast]
  rw [Nat.or_comm, Nat.mul_comm b, ← h3]
  omega
theorem pw8 {c : Int} (s : Nat) (hs : s < 8) (c0 : 0 ≤ c) (c1 : c ≤ 255) : U64 (c * 256 ^ s) := by
  have : s = 0 ∨ s = 1 ∨ s = 2 ∨ s = 3 ∨ s = 4 ∨ s = 5 ∨ s = 6 ∨ s = 7 := by omega
  unfold U64
  rcases this with rfl | rfl | rfl | rfl | rfl | rfl | rfl | rfl <;> omega
theorem shl8 {c : Int} (s : Nat) (hs : s < 8) (c0 : 0 ≤ c) (c1 : c ≤ 255) : IntKind.u64.wrap (c * 2 ^ (8 * s)) = c * 256 ^ s := by
  obtain ⟨h0, h1⟩ := pw8 s hs c0 c1
  rw [Int.pow_mul, IntKind.wrap_u64]
  show (c * 256 ^ s) % 18446744073709551616 = _
  omega
set_option maxHeartbeats 4000000 in
theorem step2_lt (bs bw bf : Nat) (s : Nat) (c wd : Int) (fv : Value) (w : World) (hs : s < 7) (c0 : 0 ≤ c) (c1 : c ≤ 255) (h0 : 0 ≤ wd) (h1 : wd < 256 ^ s) (hS : Blk w bs 3 (oneI s)) (hW : Blk w bw 22 (one64 wd)) (hsw : bs ≠ bw) :
    Calls Tryd.prog 98 #[.int .u8 c, .pointer (some ⟨bw, 0, none⟩), .pointer (some ⟨bs, 0, none⟩), .pointer (some ⟨bf, 0, none⟩)] w fun e w' => e = .returned (.tuple #[]) ∧ Blk w' bs 3 (oneI ((s + 1 : Nat) : Int)) ∧ Blk w' bw 22 (one64 (wd + c * 256 ^ s)) ∧ Kp w [bs, bw] w' := by
  have e1 := or_word s (by omega) h0 h1 c0 c1
  have e2 := shl8 s (by omega) c0 c1
  have q1 := hS.drew.cell (i := 0) rfl
  have q2 := hW.drew.cell (i := 0) rfl
  have q3 := hW.drew.frozen 0
  go_enter Tryd.func98, Tryd.ntmps98
  have hs0 : (0 : Int) ≤ s := by omega
  have hs1 : (s : Int) < 7 := by omega
  go_wp2
  go_region
  have W1 : Blk (w.setCell ⟨bw, 0, none⟩ (.int .u64 (wd + c * 256 ^ s))).drew bw 22 (one64 (wd + c * 256 ^ s)) := (hW.set 0 _).drew
  have S1 : Blk (w.setCell ⟨bw, 0, none⟩ (.int .u64 (wd + c * 256 ^ s))).drew bs 3 (oneI s) := (hS.far hsw).drew
  have K1 : Kp w [bs, bw] (w.setCell ⟨bw, 0, none⟩ (.int .u64 (wd + c * 256 ^ s))).drew := ((Kp.refl w _).set (.inr (by simp))).drew
  generalize (w.setCell ⟨bw, 0, none⟩ (.int .u64 (wd + c * 256 ^ s))).drew = w1 at W1 S1 K1 ⊢
  have d8 : ((s : Int) + 1 == 8) = false := by simp; omega
  clear q1 q2 q3 e1 e2 hS hW
  go_wp2_with (first
    | (refine wpl_loadf (by rfl) 3 _ (by rfl) bs 0 (by rfl) _ _ S1 _ rfl _ Tryd.underlying3 rfl ?_)
    | ((refine wpl_storeg (by rfl) 3 _ _ (by rfl) bs 0 (by rfl) (.int .i64 ((s : Int) + 1)) (by rfl) (by rfl) (by simp [Value.oneCell']) _ _ (oneI ((s : Int) + 1)) S1 (by simp) sizeI64' (by rfl) ?_; intro w2 S2 s2 g2); (have W2 := W1.but g2 (Ne.symm hsw)))
    | (refine wpl_loadf (by rfl) 3 _ (by rfl) bs 0 (by rfl) _ _ S2 _ rfl _ Tryd.underlying3 rfl ?_))
  exact bodyPost_end (v := .tuple #[]) (by simp [results, Tryd.results98]) rfl ⟨rfl, by simpa using S2, W2, K1.but g2 (.inr (by simp))⟩
theorem kp_mono {x y : World} {G G' : List Nat} (h : Kp x G y) (hs : ∀ b, b ∈ G → b ∈ G') : Kp x G' y := ⟨h.os, h.tape, h.output, h.size, fun b hb hn => h.block b hb fun hg => hn (hs b hg)⟩
set_option maxHeartbeats 4000000 in
theorem step2_eq (bs bw bh bf : Nat) (c wd h : Int) (w : World) (c0 : 0 ≤ c) (c1 : c ≤ 255) (h0 : 0 ≤ wd) (h1 : wd < 72057594037927936) (hh : U64 h) (hS : Blk w bs 3 (oneI 7)) (hW : Blk w bw 22 (one64 wd)) (hH : Blk w bh 22 (one64 h)) (hF : Blk w bf 1 [.func (.func 97) #[] #[.pointer (some ⟨bs, 0, none⟩), .pointer (some ⟨bh, 0, none⟩), .pointer (some ⟨bw, 0, none⟩)]]) (hR : Rnd w)
    (hsw : bs ≠ bw) (hsh : bs ≠ bh) (hhw : bh ≠ bw) (hfw : bf ≠ bw) (hfs : bf ≠ bs) (hz : 0 ≠ bw ∧ 0 ≠ bs) :
    Calls Tryd.prog 98 #[.int .u8 c, .pointer (some ⟨bw, 0, none⟩), .pointer (some ⟨bs, 0, none⟩), .pointer (some ⟨bf, 0, none⟩)] w fun e w' => e = .returned (.tuple #[]) ∧ Blk w' bs 3 (oneI 0) ∧ Blk w' bw 22 (one64 0) ∧ Blk w' bh 22 (one64 (mixF h (wd + c * 72057594037927936))) ∧ Kp w [bs, bh, bw] w' := by
  have e1 : bits .or .u64 wd (c * 72057594037927936) = wd + c * 72057594037927936 := or_word 7 (by omega) h0 h1 c0 c1
  have hu : U64 (wd + c * 72057594037927936) := by unfold U64; omega
  have q1 := hS.drew.cell (i := 0) rfl
  have q2 := hW.drew.cell (i := 0) rfl
  have q3 := hW.drew.frozen 0
  generalize hX : wd + c * 72057594037927936 = X at e1 hu ⊢
  go_enter Tryd.func98, Tryd.ntmps98
  go_wp2
  go_region
  have W1 : Blk (w.setCell ⟨bw, 0, none⟩ (.int .u64 X)).drew bw 22 (one64 X) := (hW.set 0 _).drew
  have S1 : Blk (w.setCell ⟨bw, 0, none⟩ (.int .u64 X)).drew bs 3 (oneI 7) := (hS.far hsw).drew
  have H1 : Blk (w.setCell ⟨bw, 0, none⟩ (.int .u64 X)).drew bh 22 (one64 h) := (hH.far hhw).drew
  have F1 : Blk (w.setCell ⟨bw, 0, none⟩ (.int .u64 X)).drew bf 1 [.func (.func 97) #[] #[.pointer (some ⟨bs, 0, none⟩), .pointer (some ⟨bh, 0, none⟩), .pointer (some ⟨bw, 0, none⟩)]] := (hF.far hfw).drew
  have K1 : Kp w [bs, bh, bw] (w.setCell ⟨bw, 0, none⟩ (.int .u64 X)).drew := ((Kp.refl w _).set (.inr (by simp))).drew
  have R1 : Rnd (w.setCell ⟨bw, 0, none⟩ (.int .u64 X)).drew := by obtain ⟨tR, hR'⟩ := hR; exact ⟨tR, Blk.drew (Blk.far hR' (show 0 ≠ _ from hz.1))⟩
  generalize (w.setCell ⟨bw, 0, none⟩ (.int .u64 X)).drew = w1 at W1 S1 H1 F1 K1 R1 ⊢
  clear q1 q2 q3 e1 hS hW hH hF hR hX
  go_wp2_with (first
    | (refine wpl_loadf (by rfl) 3 _ (by rfl) bs 0 (by rfl) _ _ S1 _ rfl _ Tryd.underlying3 rfl ?_)
    | ((refine wpl_storeg (by rfl) 3 _ _ (by rfl) bs 0 (by rfl) (.int .i64 8) (by rfl) (by rfl) (by simp [Value.oneCell']) _ _ (oneI 8) S1 (by simp) sizeI64' (by rfl) ?_; intro w2 S2 s2 g2); (have W2 := W1.but g2 (Ne.symm hsw)); (have H2 := H1.but g2 (Ne.symm hsh)); (have F2 := F1.but g2 hfs); (have R2 := R1.but g2 hz.2); (have hM := mix1_yes bs bh bw 8 h X w2 (by omega) hh hu S2 H2 W2 R2 hsh hsw hhw))
    | (refine wpl_loadf (by rfl) 3 _ (by rfl) bs 0 (by rfl) _ _ S2 _ rfl _ Tryd.underlying3 rfl ?_)
    | (refine wpl_loadf (by rfl) 1 _ (by rfl) bf 0 (by rfl) _ _ F2 _ rfl _ Tryd.underlying1 rfl ?_)
    | (go_at_call 97; ((with_reducible refine hM.mono ?_); rintro e w3 ⟨rfl, S3, H3, W3, K3⟩)))
  exact bodyPost_end (v := .tuple #[]) (by simp [results, Tryd.results98]) rfl ⟨rfl, S3, W3, H3, (K1.but g2 (.inr (by simp))).trans K3⟩
end Go.Proofs.YtachhbbofemfdaaDoor
namespace Go.Proofs.YtachhbbofemfdaaDoor
open Go.RowKit
set_option linter.unusedSimpArgs false
set_option linter.unusedVariables false
set_option maxRecDepth 100000
theorem zeroU64' : (Tryd.prog.info? 22).map (·.zero) = some (some (.int .u64 0)) := by kernel_rfl
theorem zeroI64' : (Tryd.prog.info? 3).map (·.zero) = some (some (.int .i64 0)) := by kernel_rfl
abbrev keyL (k0 k1 : Int) : List Value := [.int .u64 k0, .int .u64 k1]
abbrev keyV (k0 k1 : Int) : Value := .agg #[.int .u64 k0, .int .u64 k1]
theorem sizeKey : (Tryd.prog.info? 29).map (·.size) = some 2 := by kernel_rfl
theorem zeroKey : (Tryd.prog.info? 29).map (·.zero) = some (some (keyV 0 0)) := by kernel_rfl
/-- where the bytes have come to -/
theorem word_next {l : List Int} (q s : Nat) (h : 8 * q + s < l.length) : wordF ((l.drop (8 * q)).take s) + atB l (8 * q + s) * 256 ^ s = wordF ((l.drop (8 * q)).take (s + 1)) := by
  rw [word_take s (by rw [List.length_drop]; omega)]
  congr 2
  unfold atB
  rw [List.getD_eq_getElem?_getD, List.getD_eq_getElem?_getD, List.getElem?_drop]
theorem word_rng {l : List Int} (hb : Byt l) (q s : Nat) (hs : s ≤ 8) : 0 ≤ wordF ((l.drop (8 * q)).take s) ∧ wordF ((l.drop (8 * q)).take s) < 256 ^ s := by
  obtain ⟨h0, h1⟩ := wordF_rng ((hb.drop (8 * q)).take s)
  have hl : ((l.drop (8 * q)).take s).length ≤ s := List.length_take_le _ _
  obtain ⟨d, hd⟩ : ∃ d, s = ((l.drop (8 * q)).take s).length + d := ⟨s - ((l.drop (8 * q)).take s).length, by omega⟩
  refine ⟨h0, Int.lt_of_lt_of_le h1 ?_⟩
  generalize ((l.drop (8 * q)).take s).length = e at hd
  subst hd
  rw [Int.pow_add]
  have a : (0 : Int) < 256 ^ e := Int.pow_pos (by omega)
  have b : (0 : Int) < 256 ^ d := Int.pow_pos (by omega)
  have c : (256 : Int) ^ e * 1 ≤ 256 ^ e * 256 ^ d := Int.mul_le_mul_of_nonneg_left (by omega) (by omega)
  omega
theorem tag_even {k0 k1 : Int} {l : List Int} {q : Nat} (h : l.length = 8 * q) : tagF k0 k1 l = mixF (hsF (mixF k0 k1) l q) l.length := by
  unfold tagF
  rw [show (l.length + 7) / 8 = q by omega]
theorem tag_odd {k0 k1 : Int} {l : List Int} {q s : Nat} (h : l.length = 8 * q + s) (h0 : 0 < s) (h8 : s < 8) : tagF k0 k1 l = mixF (mixF (hsF (mixF k0 k1) l q) (wordF ((l.drop (8 * q)).take s))) l.length := by
  unfold tagF
  rw [show (l.length + 7) / 8 = q + 1 by omega]
  show mixF (mixF _ (wordF ((l.drop (8 * q)).take 8))) _ = _
  rw [List.take_of_length_le (by rw [List.length_drop]; omega), List.take_of_length_le (by rw [List.length_drop]; omega)]
theorem word_full {l : List Int} (q s : Nat) (hs : s ≤ 8) (h : s = 8 ∨ 8 * q + s = l.length) : wordF ((l.drop (8 * q)).take s) = wordF ((l.drop (8 * q)).take 8) := by
  rcases h with rfl | h
  · rfl
  · rw [List.take_of_length_le (by rw [List.length_drop]; omega), List.take_of_length_le (by rw [List.length_drop]; omega)]
set_option maxHeartbeats 8000000 in
theorem rtag_any (k0 k1 : Int) (A : Option Addr) (n c : Nat) (l : List Int) (w : World) (hk0 : U64 k0) (hk1 : U64 k1) (hn : l.length = n) (h : Bs w 0 w.heap.size A l) (hm : n ≤ 1000000) (hnc : n ≤ c) (hcc : c ≤ 9223372036854775807) :
    Calls Tryd.prog 69 #[keyV k0 k1, .slice A n c] w fun e w' => e = .returned (.int .u64 (tagF k0 k1 l)) ∧ Below w.heap.size w w' := by
  have hM := rmix_any k0 k1
  obtain ⟨H0, hH0⟩ : ∃ H0, H0 = mixF k0 k1 := ⟨_, rfl⟩
  have hu0 : U64 H0 := by rw [hH0]; exact mixF_u64 _ _
  have HH := Lib.hid hH0
  rw [← hH0] at hM
  clear hH0
  have Hn := Lib.hid hn
  have hby := h.byt
  clear hn
  go_enter Tryd.func69, Tryd.ntmps69
  go_wp2_with (first
    | ((refine wpl_box (by rfl) 29 _ (by rfl) _ (keyL k0 k1) (by rfl) rfl ?_; intro w1 J1 s1 b1))
    | (refine wpl_loadf (by rfl) 22 _ (by rfl) w.heap.size 0 (by rfl) _ _ J1 _ rfl _ Tryd.underlying22 rfl ?_)
    | (refine wpl_loadf (by rfl) 22 _ (by rfl) w.heap.size 1 (by rfl) _ _ J1 _ rfl _ Tryd.underlying22 rfl ?_)
    | (go_at_call 85; ((with_reducible refine (hM _ hk0 hk1).mono ?_); rintro e w' ⟨rfl, rfl⟩)))
  clear hM
  go_loopw [5, 6] (fun hv i wr => ∃ q : Nat, 8 * q ≤ n + 7 ∧ i = .int .i64 ((8 * q : Nat) : Int) ∧ hv = .int .u64 (hsF H0 l q) ∧ Below w.heap.size w wr) (fun _ i _ => n + 8 - (intOf i).toNat)
  case atStart => exact ⟨0, by omega, rfl, rfl, b1⟩
  case round =>
    obtain ⟨q, hq, rfl, rfl, hB⟩ := hrel
    clear J1 b1 s1
    by_cases hlt : 8 * q < n
    · obtain ⟨wo, rfl⟩ : ∃ wo : World, wo = wr := ⟨wr, rfl⟩
      have hlt0 : (0 : Int) ≤ ((8 * q : Nat) : Int) := by omega
      have hltI : ((8 * q : Nat) : Int) < n := by omega
      have hq9 : ((8 * q : Nat) : Int) ≤ 1000000 := by omega
      obtain ⟨Q8, hQ8⟩ : ∃ Q8, 8 * q = Q8 := ⟨_, rfl⟩
      rw [hQ8] at hlt hlt0 hltI hq9 ⊢
      have HQ := Lib.hid hQ8
      clear hQ8 hq
      go_wp2
      go_loopw [7, 8] (fun wd k wr => ∃ s : Nat, s ≤ 8 ∧ k = .int .i64 s ∧ Q8 + s ≤ n ∧ wd = .int .u64 (wordF ((l.drop (8 * q)).take s)) ∧ Below w.heap.size w wr) (fun _ k _ => 8 - (intOf k).toNat)
      case atStart => exact ⟨0, by omega, rfl, by omega, rfl, hB⟩
      case round =>
        obtain ⟨s, hs8, rfl, hsn, rfl, hB2⟩ := hrel
        clear hB
        obtain ⟨u0, u1⟩ := word_rng hby q s hs8
        by_cases hs1 : s < 8
        · by_cases hs2 : Q8 + s < n
          · obtain ⟨b, o, rfl, _, hbw, hcell⟩ := (h.below hB2 (Nat.le_refl _)).at (by rw [Hn.out]; omega)
            have ck := hcell (Q8 + s) (by rw [Hn.out]; omega)
            have hc := hby.at (Q8 + s)
            have hnx := word_next (l := l) q s (by rw [Hn.out]; have := HQ.out; omega)
            rw [show 8 * q + s = Q8 + s from by rw [HQ.out]] at hnx
            obtain ⟨C, hC⟩ : ∃ C, atB l (Q8 + s) = C := ⟨_, rfl⟩
            rw [hC] at ck hc hnx
            obtain ⟨c0, c1⟩ := hc
            have e2 := shl8 s hs1 c0 c1
            obtain ⟨p0, p1⟩ := pw8 s hs1 c0 c1
            obtain ⟨x0, x1⟩ := word_u64 ((hby.drop (8 * q)).take (s + 1)) (by have := List.length_take_le (s + 1) (l.drop (8 * q)); omega)
            rw [← hnx] at x0 x1
            have e3 : IntKind.u64.wrap (wordF ((l.drop (8 * q)).take s) + C * 256 ^ s) = wordF ((l.drop (8 * q)).take (s + 1)) := by
              rw [← hnx, IntKind.wrap_u64]
              generalize C * 256 ^ s = P at x0 x1
              omega
            generalize hP : C * 256 ^ s = P at e2 e3 p0 p1
            generalize wordF ((l.drop (8 * q)).take s) = wd at e3 u0 u1
            generalize hX : wordF ((l.drop (8 * q)).take (s + 1)) = X at e3
            have HX := Lib.hid hX
            have hs0 : (0 : Int) ≤ s := by omega
            have hsI : (s : Int) < 8 := by omega
            have hsn2 : (Q8 : Int) + s < n := by omega
            have hq0 : (0 : Int) ≤ (Q8 : Int) + s := by omega
            clear hcell hC hnx x0 x1 hP hX u1
            go_wp2
            exact ⟨⟨s + 1, by omega, by go_num, by omega, by rw [HX.out], hB2⟩, by simp [intOf]; omega⟩
          · have d1 : decide ((s : Int) < 8) = true := decide_eq_true (by omega)
            have d2 : decide ((Q8 : Int) + s < n) = false := decide_eq_false (by omega)
            have hsI : (s : Int) < 8 := by omega
            clear u0 u1
            have HM : ∀ W, Calls Tryd.prog 85 #[.int .u64 (hsF H0 l q), .int .u64 (wordF ((l.drop (8 * q)).take s))] W fun e w' => e = .returned (.int .u64 (hsF H0 l (q + 1))) ∧ W = w' := fun W => by
              have hw := word_full (l := l) q s hs8 (by rw [Hn.out]; have := HQ.out; omega)
              have h1 := rmix_any (hsF H0 l q) (wordF ((l.drop (8 * q)).take s)) W (hsF_u64 hu0 l q) (by rw [hw]; exact word_u64 ((hby.drop _).take _) (List.length_take_le _ _))
              rw [hw] at h1 ⊢
              exact h1
            go_wp2_with (first | (go_at_call 85; ((with_reducible refine (HM _).mono ?_); rintro e w' ⟨rfl, rfl⟩)))
            exact ⟨⟨q + 1, by have := HQ.out; omega, by have := HQ.out; congr 1; omega, rfl, hB2⟩, by simp [intOf]; omega⟩
        · have d1 : decide ((s : Int) < 8) = false := decide_eq_false (by omega)
          clear u0 u1
          have HM : ∀ W, Calls Tryd.prog 85 #[.int .u64 (hsF H0 l q), .int .u64 (wordF ((l.drop (8 * q)).take s))] W fun e w' => e = .returned (.int .u64 (hsF H0 l (q + 1))) ∧ W = w' := fun W => by
            have hw := word_full (l := l) q s hs8 (by rw [Hn.out]; have := HQ.out; omega)
            have h1 := rmix_any (hsF H0 l q) (wordF ((l.drop (8 * q)).take s)) W (hsF_u64 hu0 l q) (by rw [hw]; exact word_u64 ((hby.drop _).take _) (List.length_take_le _ _))
            rw [hw] at h1 ⊢
            exact h1
          go_wp2_with (first | (go_at_call 85; ((with_reducible refine (HM _).mono ?_); rintro e w' ⟨rfl, rfl⟩)))
          exact ⟨⟨q + 1, by have := HQ.out; omega, by have := HQ.out; congr 1; omega, rfl, hB2⟩, by simp [intOf]; omega⟩
    · have HT : Hid (tagF k0 k1 l = mixF (hsF H0 l q) n) := by
        show tagF k0 k1 l = _
        unfold tagF
        rw [Hn.out, ← HH.out, show (n + 7) / 8 = q by omega]
      have hM := fun W => rmix_any (hsF H0 l q) n W (hsF_u64 hu0 l q) ⟨by omega, by omega⟩
      have hf : decide (8 * q < n) = false := decide_eq_false hlt
      have hf2 : decide (((8 * q : Nat) : Int) < n) = false := decide_eq_false (by omega)
      go_wp2_with (first | (go_at_call 85; ((with_reducible refine (hM _).mono ?_); rintro e w' ⟨rfl, rfl⟩)))
      go_ret
      exact ⟨by rw [HT.out]; rfl, hB⟩
theorem zeroFun : (Tryd.prog.info? 1).map (·.zero) = some (some .nilFunc) := by kernel_rfl
theorem sizeFun : (Tryd.prog.info? 1).map (·.size) = some 1 := by kernel_rfl
abbrev mixV (bs bh bw : Nat) : Value := .func (.func 97) #[] #[.pointer (some ⟨bs, 0, none⟩), .pointer (some ⟨bh, 0, none⟩), .pointer (some ⟨bw, 0, none⟩)]
/-- the variables of Tag behind q words and s bytes -/
structure TagI (w0 : World) (bs bh bw bf : Nat) (H0 : Int) (l : List Int) (q s : Nat) (wr : World) : Prop where
  S : Blk wr bs 3 (oneI s)
  H : Blk wr bh 22 (one64 (hsF H0 l q))
  W : Blk wr bw 22 (one64 (wordF ((l.drop (8 * q)).take s)))
  F : Blk wr bf 1 [mixV bs bh bw]
  R : Rnd wr
  B : Below w0.heap.size w0 wr
set_option maxHeartbeats 16000000 in
theorem tag_any (k0 k1 : Int) (A : Option Addr) (n c : Nat) (l : List Int) (w : World) (hk0 : U64 k0) (hk1 : U64 k1) (hn : l.length = n) (h : Bs w 0 w.heap.size A l) (hm : n ≤ 1000000) (hnc : n ≤ c) (hcc : c ≤ 9223372036854775807) (hR : Rnd w) :
    Calls Tryd.prog 74 #[keyV k0 k1, .slice A n c] w fun e w' => e = .returned (.int .u64 (tagF k0 k1 l)) ∧ Below w.heap.size w w' := by
  have hw0 := hR.lt
  have Hn := Lib.hid hn
  have hby := h.byt
  have hM := fun W hr => mix_any k0 k1 W hk0 hk1 hr
  clear hn
  go_enter Tryd.func74, Tryd.ntmps74
  go_wp2_with (first
    | ((refine wpl_box (by rfl) 29 _ (by rfl) _ (keyL k0 k1) (by rfl) rfl ?_; intro w1 J1 s1 b1); (have R1 := hR.below b1 hw0))
    | (refine wpl_loadf (by rfl) 22 _ (by rfl) w.heap.size 0 (by rfl) _ _ J1 _ rfl _ Tryd.underlying22 rfl ?_)
    | (refine wpl_loadf (by rfl) 22 _ (by rfl) w.heap.size 1 (by rfl) _ _ J1 _ rfl _ Tryd.underlying22 rfl ?_)
    | (go_at_call 81; ((with_reducible refine (hM _ R1).mono ?_); rintro e w2 ⟨rfl, b2⟩; (have R2 := R1.below b2 R1.lt); (have z2 := b2.size)))
    | ((with_reducible show wpList _ _ _ (⟨some 5, _, _, _, _, _⟩ :: _) _ _); refine wpl_alloc (by rfl) 22 (by rfl) (.int .u64 0) (one64 0) zeroU64' rfl ?_; intro w3 H3 s3 b3; (have R3 := R2.below b3 R2.lt))
    | ((refine wpl_storeg (by rfl) 22 _ _ (by rfl) w2.heap.size 0 (by rfl) (.int .u64 (mixF k0 k1)) (by rfl) (by rfl) (by simp [Value.oneCell']) _ _ (one64 (mixF k0 k1)) H3 (by simp) sizeU64' (by rfl) ?_; intro w4 H4 s4 g4); (have R4 := R3.but g4 (by omega)))
    | ((with_reducible show wpList _ _ _ (⟨some 6, _, _, _, _, _⟩ :: _) _ _); refine wpl_alloc (by rfl) 22 (by rfl) (.int .u64 0) (one64 0) zeroU64' rfl ?_; intro w5 W5 s5 b5; (have H5 := H4.below b5 (by omega)))
    | ((with_reducible show wpList _ _ _ (⟨some 7, _, _, _, _, _⟩ :: _) _ _); refine wpl_alloc (by rfl) 3 (by rfl) (.int .i64 0) (oneI 0) zeroI64' rfl ?_; intro w6 S6 s6 b6; (have H6 := H5.below b6 (by omega)); (have W6 := W5.below b6 (by omega)))
    | ((refine wpl_storeg (by rfl) 22 _ _ (by rfl) w4.heap.size 0 (by rfl) (.int .u64 0) (by rfl) (by rfl) (by simp [Value.oneCell']) _ _ (one64 0) W6 (by simp) sizeU64' (by rfl) ?_; intro w7 W7 s7 g7); (have H7 := H6.but g7 (by omega)); (have S7 := S6.but g7 (by omega)))
    | ((refine wpl_storeg (by rfl) 3 _ _ (by rfl) w5.heap.size 0 (by rfl) (.int .i64 0) (by rfl) (by rfl) (by simp [Value.oneCell']) _ _ (oneI 0) S7 (by simp) sizeI64' (by rfl) ?_; intro w8 S8 s8 g8); (have H8 := H7.but g8 (by omega)); (have W8 := W7.but g8 (by omega)))
    | ((with_reducible show wpList _ _ _ (⟨some 8, _, _, _, _, _⟩ :: _) _ _); refine wpl_alloc (by rfl) 1 (by rfl) .nilFunc [.nilFunc] zeroFun rfl ?_; intro w9 F9 s9 b9; (have H9 := H8.below b9 (by omega)); (have W9 := W8.below b9 (by omega)); (have S9 := S8.below b9 (by omega)))
    | ((refine wpl_storeg (by rfl) 1 _ _ (by rfl) w8.heap.size 0 (by rfl) (mixV w5.heap.size w2.heap.size w4.heap.size) (by rfl) (by rfl) (by simp [Value.oneCell']) _ _ ([mixV w5.heap.size w2.heap.size w4.heap.size]) F9 (by simp) sizeFun (by rfl) ?_; intro w10 F10 s10 g10)))
  have hI0 : TagI w w5.heap.size w2.heap.size w4.heap.size w8.heap.size (mixF k0 k1) l 0 0 w10 := ⟨S9.but g10 (by omega), H9.but g10 (by omega), W9.but g10 (by omega), F10, (((((R4.below b5 R4.lt).below b6 (by omega)).but g7 (by omega)).but g8 (by omega)).below b9 (by omega)).but g10 (by omega), ((((((((b1.trans (b2.mono (by omega))).trans (b3.mono (by omega))).trans (g4.below (by omega) (by omega))).trans (b5.mono (by omega))).trans (b6.mono (by omega))).trans (g7.below (by omega) (by omega))).trans (g8.below (by omega) (by omega))).trans (b9.mono (by omega))).trans (g10.below (by omega) (by omega))⟩
  have hn1 : w5.heap.size ≠ w4.heap.size := by omega
  have hn2 : w5.heap.size ≠ w2.heap.size := by omega
  have hn3 : w2.heap.size ≠ w4.heap.size := by omega
  have hn4 : w8.heap.size ≠ w4.heap.size := by omega
  have hn5 : w8.heap.size ≠ w5.heap.size := by omega
  have hn6 : 0 ≠ w4.heap.size ∧ 0 ≠ w5.heap.size := by omega
  have hn7 : w8.heap.size ≠ w2.heap.size := by omega
  have hn8 : 0 ≠ w2.heap.size := by omega
  have hlo : w.heap.size ≤ w5.heap.size ∧ w.heap.size ≤ w2.heap.size ∧ w.heap.size ≤ w4.heap.size := by omega
  generalize w5.heap.size = bs at hI0 hn1 hn2 hn5 hn6 hlo ⊢
  generalize w4.heap.size = bw at hI0 hn1 hn3 hn4 hn6 hlo ⊢
  generalize w2.heap.size = bh at hI0 hn2 hn3 hn7 hn8 hlo ⊢
  generalize w8.heap.size = bf at hI0 hn4 hn5 hn7 ⊢
  have HH := Lib.hid (mixF_u64 k0 k1)
  generalize hH0 : mixF k0 k1 = H0 at hI0 HH ⊢
  have HH0 := Lib.hid hH0
  clear hH0 J1 R1 R2 R3 H3 H4 R4 W5 H5 S6 H6 W6 W7 H7 S7 S8 H8 W8 F9 H9 W9 S9 F10 b1 b2 b3 g4 b5 b6 g7 g8 b9 g10 s1 s3 s4 s5 s6 s7 s8 s9 s10 z2 hM
  go_loopw [21] (fun i wr => ∃ q s : Nat, s < 8 ∧ 8 * q + s ≤ n ∧ i = .int .i64 ((8 * q + s : Nat) : Int) ∧ TagI w bs bh bw bf H0 l q s wr) (fun i _ => n - (intOf i).toNat)
  case atStart => exact ⟨0, 0, by omega, by omega, rfl, hI0⟩
  case round =>
    obtain ⟨q, s, hs8, hsn, rfl, hI⟩ := hrel
    clear hI0
    obtain ⟨I, hIe⟩ : ∃ I, 8 * q + s = I := ⟨_, rfl⟩
    have HI := Lib.hid hIe
    rw [hIe] at hsn ⊢
    clear hIe
    have hh := hsF_u64 HH.out l q
    have hS := hI.S
    have hW := hI.W
    have hH := hI.H
    have hF := hI.F
    have hRr := hI.R
    by_cases hlt : I < n
    · obtain ⟨b, o, rfl, _, hbw, hcell⟩ := (h.below hI.B (Nat.le_refl _)).at (by rw [Hn.out]; omega)
      have ck := hcell I (by rw [Hn.out]; omega)
      have hc := hby.at I
      obtain ⟨u0, u1⟩ := word_rng hby q s (by omega)
      have hnx := word_next (l := l) q s (by rw [Hn.out, HI.out]; exact hlt)
      rw [show 8 * q + s = I from HI.out] at hnx
      obtain ⟨C, hC⟩ : ∃ C, atB l I = C := ⟨_, rfl⟩
      rw [hC] at ck hc hnx
      obtain ⟨c0, c1⟩ := hc
      have hq0 : (0 : Int) ≤ I := by omega
      have hq1 : (I : Int) < n := by omega
      clear hcell hC
      by_cases hs7 : s = 7
      · subst hs7
        have hSt := step2_eq bs bw bh bf C _ _ wr c0 c1 u0 u1 hh hS hW hH hF hRr hn1 hn2 hn3 hn4 hn5 hn6
        have hnx2 : wordF ((l.drop (8 * q)).take 7) + C * 72057594037927936 = wordF ((l.drop (8 * q)).take 8) := hnx
        rw [hnx2] at hSt
        clear hS hW hH hF hRr hnx hnx2 u0 u1
        go_wp2_with (first | (go_at_call 98; ((with_reducible refine hSt.mono ?_); rintro e w2 ⟨rfl, S2, W2, H2, K2⟩)))
        exact ⟨⟨q + 1, 0, by omega, by have := HI.out; omega, by have := HI.out; congr 1; omega, ⟨S2, H2, by simpa [wordF] using W2, K2.blk hI.F (by simp; omega), K2.rnd hI.R (by simp; omega), K2.toBelow hI.B hI.B.size (by simp; omega)⟩⟩, by simp [intOf]; omega⟩
      · have hSt := step2_lt bs bw bf s C _ (mixV bs bh bw) wr (by omega) c0 c1 u0 u1 hS hW hn1
        rw [hnx] at hSt
        clear hS hW hH hF hRr hnx u0 u1
        go_wp2_with (first | (go_at_call 98; ((with_reducible refine hSt.mono ?_); rintro e w2 ⟨rfl, S2, W2, K2⟩)))
        exact ⟨⟨q, s + 1, by omega, by have := HI.out; omega, by have := HI.out; congr 1; omega, ⟨S2, K2.blk hI.H (by simp; omega), W2, K2.blk hI.F (by simp; omega), K2.rnd hI.R (by simp; omega), K2.toBelow hI.B hI.B.size (by simp; omega)⟩⟩, by simp [intOf]; omega⟩
    · obtain rfl : n = I := by omega
      by_cases hs0 : s = 0
      · subst hs0
        have hM1 := mix1_no bs bh bw wr hS
        have hT : Hid (tagF k0 k1 l = mixF (hsF H0 l q) n) := by
          show tagF k0 k1 l = _
          rw [tag_even (q := q) (by rw [Hn.out]; exact HI.out.symm), HH0.out, Hn.out]
        have hM := mix_any (hsF H0 l q) n wr hh ⟨by omega, by omega⟩ hRr
        go_wp2_with (first
          | (refine wpl_loadf (by rfl) 1 _ (by rfl) bf 0 (by rfl) _ _ hF _ rfl _ Tryd.underlying1 rfl ?_)
          | (go_at_call 97; ((with_reducible refine hM1.mono ?_); rintro e w' ⟨rfl, rfl⟩))
          | (refine wpl_loadf (by rfl) 22 _ (by rfl) bh 0 (by rfl) _ _ hH _ rfl _ Tryd.underlying22 rfl ?_)
          | (go_at_call 81; ((with_reducible refine hM.mono ?_); rintro e w2 ⟨rfl, b2⟩)))
        go_ret
        exact ⟨by rw [hT.out]; rfl, hI.B.trans (b2.mono hI.B.size)⟩
      · have hM1 := mix1_yes bs bh bw s (hsF H0 l q) _ wr (by omega) hh (word_u64 ((hby.drop (8 * q)).take s) (by have := List.length_take_le s (l.drop (8 * q)); omega)) hS hH hW hRr hn2 hn1 hn3
        have hT : Hid (tagF k0 k1 l = mixF (mixF (hsF H0 l q) (wordF ((l.drop (8 * q)).take s))) n) := by
          show tagF k0 k1 l = _
          rw [tag_odd (q := q) (s := s) (by rw [Hn.out]; exact HI.out.symm) (by omega) hs8, HH0.out, Hn.out]
        have hM := fun W hr => mix_any (mixF (hsF H0 l q) (wordF ((l.drop (8 * q)).take s))) n W (mixF_u64 _ _) ⟨by omega, by omega⟩ hr
        go_wp2_with (first
          | (refine wpl_loadf (by rfl) 1 _ (by rfl) bf 0 (by rfl) _ _ hF _ rfl _ Tryd.underlying1 rfl ?_)
          | (go_at_call 97; ((with_reducible refine hM1.mono ?_); rintro e w2 ⟨rfl, S2, H2, W2, K2⟩; (have R2 : Rnd w2 := K2.rnd hI.R (by simp; omega)); (have B2 := K2.toBelow hI.B hI.B.size (by simp; omega))))
          | (refine wpl_loadf (by rfl) 22 _ (by rfl) bh 0 (by rfl) _ _ H2 _ rfl _ Tryd.underlying22 rfl ?_)
          | (go_at_call 81; ((with_reducible refine (hM _ R2).mono ?_); rintro e w3 ⟨rfl, b3⟩)))
        go_ret
        exact ⟨by rw [hT.out]; rfl, B2.trans (b3.mono B2.size)⟩
end Go.Proofs.YtachhbbofemfdaaDoor
namespace Go.Proofs.YtachhbbofemfdaaDoor
open Go.RowKit
set_option linter.unusedSimpArgs false
set_option linter.unusedVariables false
set_option maxRecDepth 100000
section
variable {P : Program} {w : World} {fn : Func} {tmps : Array Value}
theorem load_res {g : Nat} {T T' : TypeId} {cs : List Value} {d : TypeDesc} (hB : Blk w g T' cs) (hu : P.underlying T = some d) (hd : d.isRow = true) {n : Nat} (hi : (P.info? T).map (·.size) = some n) (hn : cs.length = n) : (loadVar T ⟨g, 0, none⟩).run P w = .ok (.agg cs.toArray) w := by
  subst hn
  exact run_loadVar_mid w g 0 T cs d hB.range hu hd hi
/-- one result, in memory -/
theorem res_c {c : Tmp} {T T' : TypeId} (h : fn.results = #[.cell c T]) {g : Nat} {cs : List Value} {d : TypeDesc} (hp : tmps.getD c undef = .pointer (some ⟨g, 0, none⟩)) (hB : Blk w g T' cs) (hu : P.underlying T = some d) (hd : d.isRow = true) {n : Nat} (hi : (P.info? T).map (·.size) = some n) (hn : cs.length = n) :
    (results fn tmps).run P w = .ok (.agg cs.toArray) w := by
  have hl := load_res hB hu hd hi hn
  rw [Array.getD_eq_getD_getElem?] at hp
  simp [results, h, hp, asAddr, Sem.run_bind, hl]
/-- a result in memory, and one more -/
theorem res_cx {c x : Tmp} {T T' : TypeId} (h : fn.results = #[.cell c T, .tmp x]) {g : Nat} {cs : List Value} {d : TypeDesc} (hp : tmps.getD c undef = .pointer (some ⟨g, 0, none⟩)) (hB : Blk w g T' cs) (hu : P.underlying T = some d) (hd : d.isRow = true) {n : Nat} (hi : (P.info? T).map (·.size) = some n) (hn : cs.length = n) {v : Value} (hv : tmps.getD x undef = v) :
    (results fn tmps).run P w = .ok (.tuple #[.agg cs.toArray, v]) w := by
  have hl := load_res hB hu hd hi hn
  subst hv
  rw [Array.getD_eq_getD_getElem?] at hp
  simp [results, h, hp, asAddr, Sem.run_bind, hl]
/-- a result in memory, and two more -/
theorem res_cxy {c x y : Tmp} {T T' : TypeId} (h : fn.results = #[.cell c T, .tmp x, .tmp y]) {g : Nat} {cs : List Value} {d : TypeDesc} (hp : tmps.getD c undef = .pointer (some ⟨g, 0, none⟩)) (hB : Blk w g T' cs) (hu : P.underlying T = some d) (hd : d.isRow = true) {n : Nat} (hi : (P.info? T).map (·.size) = some n) (hn : cs.length = n) {v u : Value} (hv : tmps.getD x undef = v) (hw : tmps.getD y undef = u) :
    (results fn tmps).run P w = .ok (.tuple #[.agg cs.toArray, v, u]) w := by
  have hl := load_res hB hu hd hi hn
  subst hv hw
  rw [Array.getD_eq_getD_getElem?] at hp
  simp [results, h, hp, asAddr, Sem.run_bind, hl]
/-- two results in memory, and one more -/
theorem res_ccx {c c' x : Tmp} {T T' : TypeId} (h : fn.results = #[.cell c T, .cell c' T, .tmp x]) {g g' : Nat} {cs cs' : List Value} {d : TypeDesc} (hp : tmps.getD c undef = .pointer (some ⟨g, 0, none⟩)) (hp' : tmps.getD c' undef = .pointer (some ⟨g', 0, none⟩)) (hB : Blk w g T' cs) (hB' : Blk w g' T' cs') (hu : P.underlying T = some d) (hd : d.isRow = true) {n : Nat} (hi : (P.info? T).map (·.size) = some n) (hn : cs.length = n) (hn' : cs'.length = n) {v : Value} (hv : tmps.getD x undef = v) :
    (results fn tmps).run P w = .ok (.tuple #[.agg cs.toArray, .agg cs'.toArray, v]) w := by
  have hl := load_res hB hu hd hi hn
  have hl' := load_res hB' hu hd hi hn'
  subst hv
  rw [Array.getD_eq_getD_getElem?] at hp hp'
  simp [results, h, hp, hp', asAddr, Sem.run_bind, hl, hl']
end
end Go.Proofs.YtachhbbofemfdaaDoor
