/- The mixing function, of the program and of the reference. -/
import Derived.Test.YtkgpeddncpdjjaaDoorKp
namespace Go.Proofs.YtkgpeddncpdjjaaDoor
open Go.RowKit
set_option linter.unusedSimpArgs false
set_option linter.unusedVariables false
set_option maxRecDepth 100000
/-- one round -/
def rndF (x s m : Int) : Int := IntKind.u64.wrap (bits .xor .u64 x (x / s) * m)
def mix0 (a b : Int) : Int := IntKind.u64.wrap (a + IntKind.u64.wrap (11400714819323198485 * IntKind.u64.wrap (b + 1)))
def mixF (a b : Int) : Int := rndF (rndF (rndF (mix0 a b) 1073741824 13787848793156543929) 134217728 10723151780598845931) 2147483648 1
def U64 (x : Int) : Prop := 0 ≤ x ∧ x ≤ 18446744073709551615
theorem wrap_u64 (x : Int) : U64 (IntKind.u64.wrap x) := by rw [IntKind.wrap_u64]; unfold U64; omega
theorem rndF_u64 (x s m : Int) : U64 (rndF x s m) := wrap_u64 _
theorem mix0_u64 (a b : Int) : U64 (mix0 a b) := wrap_u64 _
theorem mixF_u64 (a b : Int) : U64 (mixF a b) := rndF_u64 _ _ _
theorem xor_u64 {x y : Int} (hx : U64 x) (hy : U64 y) : U64 (bits .xor .u64 x y) := by
  obtain ⟨x0, x1⟩ := hx
  obtain ⟨y0, y1⟩ := hy
  rw [Go.u64_xor x y x0 (by omega) y0 (by omega)]
  have h : x.toNat ^^^ y.toNat < 2 ^ 64 := Nat.xor_lt_two_pow (by omega) (by omega)
  unfold U64
  omega
theorem rndF_one {x : Int} (hx : U64 x) : rndF x 2147483648 1 = bits .xor .u64 x (x / 2147483648) := by
  have h := xor_u64 hx (y := x / 2147483648) ⟨by obtain ⟨h0, h1⟩ := hx; omega, by obtain ⟨h0, h1⟩ := hx; omega⟩
  obtain ⟨h0, h1⟩ := h
  unfold rndF
  rw [Int.mul_one, IntKind.wrap_u64]
  omega
set_option maxHeartbeats 1000000 in
theorem rmix_any (a b : Int) (w : World) (ha : U64 a) (hb : U64 b) : Calls Tryd.prog 40 #[.int .u64 a, .int .u64 b] w fun e w' => e = .returned (.int .u64 (mixF a b)) ∧ w = w' := by
  obtain ⟨a0, a1⟩ := ha
  obtain ⟨b0, b1⟩ := hb
  go_enter Tryd.func40, Tryd.ntmps40
  go_wp2
  go_ret
  refine ⟨?_, rfl⟩
  have e : mixF a b = bits .xor .u64 (rndF (rndF (mix0 a b) 1073741824 13787848793156543929) 134217728 10723151780598845931) (rndF (rndF (mix0 a b) 1073741824 13787848793156543929) 134217728 10723151780598845931 / 2147483648) := rndF_one (rndF_u64 _ _ _)
  rw [e]
  rfl
/-- the table of rounds lies in the first block -/
def Rnd (w : World) : Prop := ∃ t : TypeId, Blk w 0 t [.int .u64 30, .int .u64 13787848793156543929, .int .u64 27, .int .u64 10723151780598845931, .int .u64 31, .int .u64 1]
theorem Rnd.lt {w : World} (h : Rnd w) : 0 < w.heap.size := by obtain ⟨t, h⟩ := h; exact Blk.lt h
theorem Rnd.below {w w' : World} {B : Nat} (h : Rnd w) (hb : Below B w w') (hB : 0 < B) : Rnd w' := by obtain ⟨t, h⟩ := h; exact ⟨t, Blk.below h hb hB⟩
theorem Rnd.but {w w' : World} {g : Nat} (h : Rnd w) (hb : But g w w') (hg : 0 ≠ g) : Rnd w' := by obtain ⟨t, h⟩ := h; exact ⟨t, Blk.but h hb hg⟩
theorem Rnd.blk {w : World} (h : Rnd w) : ∃ t : TypeId, Blk w 0 t [.int .u64 30, .int .u64 13787848793156543929, .int .u64 27, .int .u64 10723151780598845931, .int .u64 31, .int .u64 1] := h
theorem Kp.rnd {x y : World} {G : List Nat} (h : Kp x G y) (hR : Rnd x) (hg : 0 ∉ G) : Rnd y := by obtain ⟨t, hR⟩ := hR; exact ⟨t, h.blk hR hg⟩
def mixK (a b : Int) : Nat → Int
  | 0 => mix0 a b
  | 1 => rndF (mix0 a b) 1073741824 13787848793156543929
  | 2 => rndF (rndF (mix0 a b) 1073741824 13787848793156543929) 134217728 10723151780598845931
  | _ => mixF a b
theorem mixK_u64 (a b : Int) (k : Nat) : U64 (mixK a b k) := by
  match k with
  | 0 => exact mix0_u64 a b
  | 1 => exact rndF_u64 _ _ _
  | 2 => exact rndF_u64 _ _ _
  | k + 3 => exact mixF_u64 a b
theorem sizeRnd : (Tryd.prog.info? 75).map (·.size) = some 2 := by kernel_rfl
theorem sizeRnds : (Tryd.prog.info? 76).map (·.size) = some 6 := by kernel_rfl
theorem zeroRnd : (Tryd.prog.info? 75).map (·.zero) = some (some (.agg #[.int .u64 0, .int .u64 0])) := by kernel_rfl
set_option maxHeartbeats 4000000 in
theorem mix_any (a b : Int) (w : World) (ha : U64 a) (hb : U64 b) (hR : Rnd w) : Calls Tryd.prog 35 #[.int .u64 a, .int .u64 b] w fun e w' => e = .returned (.int .u64 (mixF a b)) ∧ Below w.heap.size w w' := by
  obtain ⟨a0, a1⟩ := ha
  obtain ⟨b0, b1⟩ := hb
  have i0 : ∀ w, (Instr.index 76 (.agg #[.int .u64 30, .int .u64 13787848793156543929, .int .u64 27, .int .u64 10723151780598845931, .int .u64 31, .int .u64 1]) (.int .i64 0)).run Tryd.prog w = .ok (.agg #[.int .u64 30, .int .u64 13787848793156543929]) w := fun _ => by kernel_rfl
  have i1 : ∀ w, (Instr.index 76 (.agg #[.int .u64 30, .int .u64 13787848793156543929, .int .u64 27, .int .u64 10723151780598845931, .int .u64 31, .int .u64 1]) (.int .i64 1)).run Tryd.prog w = .ok (.agg #[.int .u64 27, .int .u64 10723151780598845931]) w := fun _ => by kernel_rfl
  have i2 : ∀ w, (Instr.index 76 (.agg #[.int .u64 30, .int .u64 13787848793156543929, .int .u64 27, .int .u64 10723151780598845931, .int .u64 31, .int .u64 1]) (.int .i64 2)).run Tryd.prog w = .ok (.agg #[.int .u64 31, .int .u64 1]) w := fun _ => by kernel_rfl
  have hm0 : IntKind.u64.wrap (a + IntKind.u64.wrap (11400714819323198485 * IntKind.u64.wrap (b + 1))) = mix0 a b := rfl
  obtain ⟨tR, J⟩ := hR.blk
  clear hR
  go_enter Tryd.func35, Tryd.ntmps35
  go_wp2_with (first | (refine wpl_load (by rfl) 76 _ (by rfl) 0 (by rfl) tR _ J _ Tryd.underlying76 rfl _ sizeRnds (by rfl) ?_))
  go_loopw [5, 14] (fun x i wr => ∃ k : Nat, k ≤ 3 ∧ i = .int .i64 k ∧ x = .int .u64 (mixK a b k) ∧ Below w.heap.size w wr) (fun _ i _ => 3 - (intOf i).toNat)
  case atStart => exact ⟨0, by omega, rfl, rfl, Below.refl _ _⟩
  case round =>
    obtain ⟨k, hk, rfl, rfl, hB⟩ := hrel
    obtain ⟨wo, rfl⟩ : ∃ wo : World, wo = wr := ⟨wr, rfl⟩
    clear hm0 J
    have hX := mixK_u64 a b k
    obtain ⟨x0, x1⟩ := hX
    have : k = 0 ∨ k = 1 ∨ k = 2 ∨ k = 3 := by omega
    rcases this with rfl | rfl | rfl | rfl
    · skip
      go_wp2_with (first
        | (refine wpl_alloc (by rfl) 75 (by rfl) (.agg #[.int .u64 0, .int .u64 0]) [.int .u64 0, .int .u64 0] zeroRnd rfl ?_; intro wa Ja sa ba)
        | (refine wpl_store (by rfl) 75 _ _ (by rfl) wo.heap.size (by rfl) _ (by rfl) [.int .u64 30, .int .u64 13787848793156543929] rfl 75 _ Ja (by rfl) _ sizeRnd (by rfl) (by simp [Value.oneCell']) ?_; intro wb Jb sb gb)
        | (refine wpl_loadf (by rfl) 73 _ (by rfl) wo.heap.size 0 (by rfl) _ _ Jb _ rfl _ Tryd.underlying73 rfl ?_)
        | (refine wpl_loadf (by rfl) 22 _ (by rfl) wo.heap.size 1 (by rfl) _ _ Jb _ rfl _ Tryd.underlying22 rfl ?_))
      have Bb := (hB.trans (ba.mono hB.size)).trans (gb.below (by have := hB.size; omega) hB.size)
      exact ⟨⟨1, by omega, rfl, rfl, Bb⟩, by simp [intOf] <;> decide⟩
    · skip
      go_wp2_with (first
        | (refine wpl_alloc (by rfl) 75 (by rfl) (.agg #[.int .u64 0, .int .u64 0]) [.int .u64 0, .int .u64 0] zeroRnd rfl ?_; intro wa Ja sa ba)
        | (refine wpl_store (by rfl) 75 _ _ (by rfl) wo.heap.size (by rfl) _ (by rfl) [.int .u64 27, .int .u64 10723151780598845931] rfl 75 _ Ja (by rfl) _ sizeRnd (by rfl) (by simp [Value.oneCell']) ?_; intro wb Jb sb gb)
        | (refine wpl_loadf (by rfl) 73 _ (by rfl) wo.heap.size 0 (by rfl) _ _ Jb _ rfl _ Tryd.underlying73 rfl ?_)
        | (refine wpl_loadf (by rfl) 22 _ (by rfl) wo.heap.size 1 (by rfl) _ _ Jb _ rfl _ Tryd.underlying22 rfl ?_))
      have Bb := (hB.trans (ba.mono hB.size)).trans (gb.below (by have := hB.size; omega) hB.size)
      exact ⟨⟨2, by omega, rfl, rfl, Bb⟩, by simp [intOf] <;> decide⟩
    · skip
      go_wp2_with (first
        | (refine wpl_alloc (by rfl) 75 (by rfl) (.agg #[.int .u64 0, .int .u64 0]) [.int .u64 0, .int .u64 0] zeroRnd rfl ?_; intro wa Ja sa ba)
        | (refine wpl_store (by rfl) 75 _ _ (by rfl) wo.heap.size (by rfl) _ (by rfl) [.int .u64 31, .int .u64 1] rfl 75 _ Ja (by rfl) _ sizeRnd (by rfl) (by simp [Value.oneCell']) ?_; intro wb Jb sb gb)
        | (refine wpl_loadf (by rfl) 73 _ (by rfl) wo.heap.size 0 (by rfl) _ _ Jb _ rfl _ Tryd.underlying73 rfl ?_)
        | (refine wpl_loadf (by rfl) 22 _ (by rfl) wo.heap.size 1 (by rfl) _ _ Jb _ rfl _ Tryd.underlying22 rfl ?_))
      have Bb := (hB.trans (ba.mono hB.size)).trans (gb.below (by have := hB.size; omega) hB.size)
      exact ⟨⟨3, by omega, rfl, by show _ = Value.int .u64 (rndF (mixK a b 2) 2147483648 1); unfold rndF; rw [Int.mul_one], Bb⟩, by simp [intOf] <;> decide⟩
    · skip
      go_wp2
      go_ret
      exact ⟨rfl, hB⟩
end Go.Proofs.YtkgpeddncpdjjaaDoor
