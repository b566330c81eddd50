/- The jar of cookies: the plain laws: what was sealed is opened. -/
import Derived.Test.YtkgpeddncpdjjaaDoorCkK
import Derived.Test.YtkgpeddncpdjjaaDoorNtpP
import Derived.DeepKeys
namespace Go.Proofs.YtkgpeddncpdjjaaDoor
open Go.RowKit
set_option linter.unusedSimpArgs false
set_option linter.unusedVariables false
set_option maxRecDepth 100000
theorem key_eq (a b c d : Int) (W : World) : (Op.equalIn 10000 24 (keyV a b) (keyV c d)).run Tryd.prog W = .ok (decide (a = c) && decide (b = d)) W := by
  have hu : Tryd.prog.underlying 24 = some (.array 2 22) := Tryd.underlying24
  have hc : Tryd.prog.cellsOf 22 = 1 := by kernel_rfl
  obtain ⟨i, hi⟩ : ∃ i, Tryd.prog.info? 22 = some i := info_of_underlying Tryd.underlying22
  have h := run_equalIn_array (P := Tryd.prog) W 9999 #[.int .u64 a, .int .u64 b] #[.int .u64 c, .int .u64 d] hu hi
  refine Eq.trans h ?_
  rw [hc]
  have hp : ∀ (x y : Int) (W : World), (part 22 #[.int .u64 x, .int .u64 y] 0).run Tryd.prog W = .ok (.int .u64 x) W := fun x y W => by kernel_rfl
  have hp1 : ∀ (x y : Int) (W : World), (part 22 #[.int .u64 x, .int .u64 y] 1).run Tryd.prog W = .ok (.int .u64 y) W := fun x y W => by kernel_rfl
  have hq : ∀ (x y : Int) (W : World), (Op.equalIn 9999 22 (.int .u64 x) (.int .u64 y)).run Tryd.prog W = .ok (x == y) W := fun x y W => run_equalIn_int W 9998 22 .u64 .u64 x y Tryd.underlying22
  show (Op.eqItems 9999 22 1 _ _ [0, 1]).run _ _ = _
  by_cases h1 : a = c
  · by_cases h2 : b = d
    · simp [h1, h2, Op.eqItems, Sem.run_bind, Sem.run_ite, hp, hp1, hq]
    · simp [h1, h2, Op.eqItems, Sem.run_bind, Sem.run_ite, hp, hp1, hq]
  · simp [h1, Op.eqItems, Sem.run_bind, Sem.run_ite, hp, hp1, hq]
theorem xr_nat {a b : Int} (ha : U64 a) (hb : U64 b) : xr a b = ((a.toNat ^^^ b.toNat : Nat) : Int) := by
  obtain ⟨a0, a1⟩ := ha
  obtain ⟨b0, b1⟩ := hb
  exact Go.u64_xor a b a0 (by omega) b0 (by omega)
theorem xr_back {a b : Int} (ha : U64 a) (hb : U64 b) : xr (xr a b) b = a := by
  rw [xr_nat (xr_u64 ha hb) hb, xr_nat ha hb]
  obtain ⟨a0, a1⟩ := ha
  simp only [Int.toNat_natCast]
  rw [Nat.xor_assoc, Nat.xor_self, Nat.xor_zero]
  omega
theorem u64_lt {x : Int} (h : U64 x) : 0 ≤ x ∧ x < 256 ^ 8 ∧ x < 18446744073709551616 := by
  obtain ⟨h0, h1⟩ := h
  exact ⟨h0, by rw [p8]; omega, by omega⟩
theorem fB_u64 {x : Int} (m : List Int) (h : U64 x) : fB (bytesB 8 x ++ m) 0 8 = x := fB_head 8 x m (u64_lt h).1 (u64_lt h).2.1 (u64_lt h).2.2
/-- a cookie's bytes, one number behind the other -/
def ckP (g n y0 y1 y2 y3 t : Int) : List Int := bytesB 4 g ++ (bytesB 8 n ++ (bytesB 8 y0 ++ (bytesB 8 y1 ++ (bytesB 8 y2 ++ (bytesB 8 y3 ++ bytesB 8 t)))))
theorem ckP_of (g n y0 y1 y2 y3 t : Int) : sbB g n y0 y1 y2 y3 4 ++ bytesB 8 t = ckP g n y0 y1 y2 y3 t := by
  show bytesB 4 g ++ bytesB 8 n ++ bytesB 8 y0 ++ bytesB 8 y1 ++ bytesB 8 y2 ++ bytesB 8 y3 ++ bytesB 8 t = _
  unfold ckP
  simp only [List.append_assoc]
theorem ckP_read {g n y0 y1 y2 y3 t : Int} (hg : Gn g) (hn : U64 n) (h0 : U64 y0) (h1 : U64 y1) (h2 : U64 y2) (h3 : U64 y3) (ht : U64 t) :
    fB (ckP g n y0 y1 y2 y3 t) 0 4 = g ∧ fB (ckP g n y0 y1 y2 y3 t) 4 8 = n ∧ fB (ckP g n y0 y1 y2 y3 t) 12 8 = y0 ∧ fB (ckP g n y0 y1 y2 y3 t) 20 8 = y1 ∧ fB (ckP g n y0 y1 y2 y3 t) 28 8 = y2 ∧ fB (ckP g n y0 y1 y2 y3 t) 36 8 = y3 ∧ fB (ckP g n y0 y1 y2 y3 t) 44 8 = t ∧
      (ckP g n y0 y1 y2 y3 t).take 44 = sbB g n y0 y1 y2 y3 4 := by
  have l8 := fun x : Int => bytesB_length 8 x
  have l4 := bytesB_length 4 g
  refine ⟨?_, ?_, ?_, ?_, ?_, ?_, ?_, ?_⟩
  · unfold ckP; exact fB_head 4 g _ hg.1 (by rw [p4]; have := hg.2; omega) (by have := hg.2; omega)
  · unfold ckP; rw [fB_skip _ _ 0 8 4 l4]; exact fB_u64 _ hn
  · unfold ckP; rw [fB_skip _ _ 8 8 4 l4, fB_skip _ _ 0 8 8 (l8 _)]; exact fB_u64 _ h0
  · unfold ckP; rw [fB_skip _ _ 16 8 4 l4, fB_skip _ _ 8 8 8 (l8 _), fB_skip _ _ 0 8 8 (l8 _)]; exact fB_u64 _ h1
  · unfold ckP; rw [fB_skip _ _ 24 8 4 l4, fB_skip _ _ 16 8 8 (l8 _), fB_skip _ _ 8 8 8 (l8 _), fB_skip _ _ 0 8 8 (l8 _)]; exact fB_u64 _ h2
  · unfold ckP; rw [fB_skip _ _ 32 8 4 l4, fB_skip _ _ 24 8 8 (l8 _), fB_skip _ _ 16 8 8 (l8 _), fB_skip _ _ 8 8 8 (l8 _), fB_skip _ _ 0 8 8 (l8 _)]; exact fB_u64 _ h3
  · unfold ckP; rw [fB_skip _ _ 40 8 4 l4, fB_skip _ _ 32 8 8 (l8 _), fB_skip _ _ 24 8 8 (l8 _), fB_skip _ _ 16 8 8 (l8 _), fB_skip _ _ 8 8 8 (l8 _), fB_skip _ _ 0 8 8 (l8 _)]
    have := fB_u64 [] ht
    rwa [List.append_nil] at this
  · rw [← ckP_of, List.take_left' (sbB_len _ _ _ _ _ _).2.2.2.2]
theorem sbB_byt (g n y0 y1 y2 y3 : Int) : Byt (sbB g n y0 y1 y2 y3 4) :=
  (((((bytesB_byt 4 g).app (bytesB_byt 8 n)).app (bytesB_byt 8 y0)).app (bytesB_byt 8 y1)).app (bytesB_byt 8 y2)).app (bytesB_byt 8 y3)
theorem ckB_byt (s g n c0 c1 s0 s1 : Int) : Byt (ckB s g n c0 c1 s0 s1) := by
  unfold ckB
  exact (sbB_byt _ _ _ _ _ _).app (bytesB_byt 8 _)
/-- what a jar makes of a cookie that it, or one with the same seed, has sealed -/
theorem ck_open {s k g' g n c0 c1 s0 s1 : Int} (hg : Gn g) (hn : U64 n) (hc0 : U64 c0) (hc1 : U64 c1) (hs0 : U64 s0) (hs1 : U64 s1) :
    opV s k g' (ckB s g n c0 c1 s0 s1) = if staleB k g' g = true then .tuple #[keyV 0 0, keyV 0 0, .int .i64 17] else .tuple #[keyV c0 c1, keyV s0 s1, .int .i64 0] := by
  have hl := ckB_len s g n c0 c1 s0 s1
  have e : ckB s g n c0 c1 s0 s1 = ckP g n (xr c0 (padF s g n 0)) (xr c1 (padF s g n 1)) (xr s0 (padF s g n 2)) (xr s1 (padF s g n 3)) (jtag s g (sbB g n (xr c0 (padF s g n 0)) (xr c1 (padF s g n 1)) (xr s0 (padF s g n 2)) (xr s1 (padF s g n 3)) 4)) := by
    unfold ckB; exact ckP_of _ _ _ _ _ _ _
  have b0 := xr_back hc0 (padF_u64 s g n 0)
  have b1 := xr_back hc1 (padF_u64 s g n 1)
  have b2 := xr_back hs0 (padF_u64 s g n 2)
  have b3 := xr_back hs1 (padF_u64 s g n 3)
  obtain ⟨f0, f1, f2, f3, f4, f5, f6, f7⟩ := ckP_read hg hn (xr_u64 hc0 (padF_u64 s g n 0)) (xr_u64 hc1 (padF_u64 s g n 1)) (xr_u64 hs0 (padF_u64 s g n 2)) (xr_u64 hs1 (padF_u64 s g n 3)) (jtag_u64 s g (sbB g n (xr c0 (padF s g n 0)) (xr c1 (padF s g n 1)) (xr s0 (padF s g n 2)) (xr s1 (padF s g n 3)) 4))
  rw [← e] at f0 f1 f2 f3 f4 f5 f6 f7
  generalize xr c0 (padF s g n 0) = y0 at f0 f1 f2 f3 f4 f5 f6 f7 b0
  generalize xr c1 (padF s g n 1) = y1 at f0 f1 f2 f3 f4 f5 f6 f7 b1
  generalize xr s0 (padF s g n 2) = y2 at f0 f1 f2 f3 f4 f5 f6 f7 b2
  generalize xr s1 (padF s g n 3) = y3 at f0 f1 f2 f3 f4 f5 f6 f7 b3
  generalize ckB s g n c0 c1 s0 s1 = L at hl f0 f1 f2 f3 f4 f5 f6 f7 ⊢
  by_cases h : staleB k g' g = true
  · rw [if_pos h]
    exact opV_err (by unfold opE; rw [if_neg (by omega), if_neg (by omega), f0, if_pos h]) (by decide)
  · rw [if_neg h, opV_ok (by unfold opE; rw [if_neg (by omega), if_neg (by omega), f0, if_neg h, f6, f7, if_pos rfl]), f0, f1, f2, f3, f4, f5, b0, b1, b2, b3]
theorem fB_zeros (n : Nat) : fB (List.replicate n 0) 0 4 = 0 := by
  unfold fB
  rw [List.drop_zero]
  have : ∀ k : Nat, numB (List.replicate k 0) = 0 := fun k => by
    induction k with
    | zero => rfl
    | succ k ih => rw [List.replicate_succ', numB_appN, ih]; rfl
  rw [List.take_replicate]
  exact this _
theorem zeros_open (s k g : Int) (n : Nat) : opV s k g (List.replicate n 0) = .tuple #[keyV 0 0, keyV 0 0, .int .i64 (if n < 52 then 5 else if 52 < n then 6 else 17)] := by
  refine opV_err ?_ (by split <;> (try split) <;> decide)
  unfold opE
  rw [List.length_replicate, fB_zeros]
  split
  · rfl
  · split
    · rfl
    · rw [if_pos (by unfold staleB; rfl)]
theorem open_any (bj : Nat) (s k g : Int) (A : Option Addr) (n c : Nat) (l : List Int) (w : World) (hn : l.length = n) (h : Bs w 0 w.heap.size A l) (hc : n ≤ c) (hcc : c ≤ 9223372036854775807) (hs : U64 s) (hg : Gn g) (hk : 1 ≤ k ∧ k ≤ 8) (hJ : Blk w bj 50 (jarL s k g)) (hR : Rnd w) :
    Calls Tryd.prog 16 #[.pointer (some ⟨bj, 0, none⟩), .slice A n c] w fun e w' => e = .returned (opV s k g l) ∧ Below w.heap.size w w' := by
  by_cases h52 : n = 52
  · subst h52
    exact open_52 bj s k g A c l w hn h hc hcc hs hg hk hJ hR
  · exact open_len bj s k g A n c l w hn h52
theorem ropen_any (bj : Nat) (s k g : Int) (A : Option Addr) (n c : Nat) (l : List Int) (w : World) (hn : l.length = n) (h : Bs w 0 w.heap.size A l) (hc : n ≤ c) (hcc : c ≤ 9223372036854775807) (hs : U64 s) (hg : Gn g) (hk : 1 ≤ k ∧ k ≤ 8) (hJ : Blk w bj 55 (jarL s k g)) :
    Calls Tryd.prog 17 #[.pointer (some ⟨bj, 0, none⟩), .slice A n c] w fun e w' => e = .returned (opV s k g l) ∧ Below w.heap.size w w' := by
  by_cases h52 : n = 52
  · subst h52
    exact ropen_52 bj s k g A c l w hn h hc hcc hs hg hk hJ
  · exact ropen_len bj s k g A n c l w hn h52
end Go.Proofs.YtkgpeddncpdjjaaDoor
