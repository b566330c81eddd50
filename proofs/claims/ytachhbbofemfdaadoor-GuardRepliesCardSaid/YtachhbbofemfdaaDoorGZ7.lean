/- The mixing function, of the program and of the reference. Small lemmas about worlds for regions that draw their order. No function of the program occurs here. The tag of bytes under a key: what both Tags compute, and the contracts of the closures. The contracts of Tag and Derive, of the program and of the reference. What a function returns whose results lie in memory. No function of the program occurs here. Derive, and the keys of a generation, of the program and of the reference. The jar of cookies: the keys of a generation, the pads and the tag, of the program and of the reference. -/
import Derived.Test.YtachhbbofemfdaaDoorGZ3
import Derived.Test.YtachhbbofemfdaaDoorGZ2
import Derived.Test.YtachhbbofemfdaaDoorGZ1
import Derived.Test.YtachhbbofemfdaaDoorGZ4
import Derived.Lib.SlBytesConst
namespace Go.Proofs.YtachhbbofemfdaaDoor
open Go.RowKit
set_option linter.unusedSimpArgs false
set_option linter.unusedVariables false
set_option maxRecDepth 100000
/-- one round -/
def rndF (x s m : Int) : Int := IntKind.u64.wrap (bits .xor .u64 x (x / s) * m)
def mix0 (a b : Int) : Int := IntKind.u64.wrap (a + IntKind.u64.wrap (11400714819323198485 * IntKind.u64.wrap (b + 1)))
def mixF (a b : Int) : Int := rndF (rndF (rndF (mix0 a b) 1073741824 13787848793156543929) 134217728 10723151780598845931) 2147483648 1
def U64 (x : Int) : Prop := 0 ≤ x ∧ x ≤ 18446744073709551615
theorem wrap_u64 (x : Int) : U64 (IntKind.u64.wrap x) := by rw [IntKind.wrap_u64]; unfold U64; omega
theorem rndF_u64 (x s m : Int) : U64 (rndF x s m) := wrap_u64 _
theorem mix0_u64 (a b : Int) : U64 (mix0 a b) := wrap_u64 _
theorem mixF_u64 (a b : Int) : U64 (mixF a b) := rndF_u64 _ _ _
theorem xor_u64 {x y : Int} (hx : U64 x) (hy : U64 y) : U64 (bits .xor .u64 x y) := by
  obtain ⟨x0, x1⟩ := hx
  obtain ⟨y0, y1⟩ := hy
  rw [Go.u64_xor x y x0 (by omega) y0 (by omega)]
  have h : x.toNat ^^^ y.toNat < 2 ^ 64 := Nat.xor_lt_two_pow (by omega) (by omega)
  unfold U64
  omega
theorem rndF_one {x : Int} (hx : U64 x) : rndF x 2147483648 1 = bits .xor .u64 x (x / 2147483648) := by
  have h := xor_u64 hx (y := x / 2147483648) ⟨by obtain ⟨h0, h1⟩ := hx; omega, by obtain ⟨h0, h1⟩ := hx; omega⟩
  obtain ⟨h0, h1⟩ := h
  unfold rndF
  rw [Int.mul_one, IntKind.wrap_u64]
  omega
set_option maxHeartbeats 1000000 in
theorem rmix_any (a b : Int) (w : World) (ha : U64 a) (hb : U64 b) : Calls Tryd.prog 85 #[.int .u64 a, .int .u64 b] w fun e w' => e = .returned (.int .u64 (mixF a b)) ∧ w = w' := by
  obtain ⟨a0, a1⟩ := ha
  obtain ⟨b0, b1⟩ := hb
  go_enter Tryd.func85, Tryd.ntmps85
  go_wp2
  go_ret
  refine ⟨?_, rfl⟩
  have e : mixF a b = bits .xor .u64 (rndF (rndF (mix0 a b) 1073741824 13787848793156543929) 134217728 10723151780598845931) (rndF (rndF (mix0 a b) 1073741824 13787848793156543929) 134217728 10723151780598845931 / 2147483648) := rndF_one (rndF_u64 _ _ _)
  rw [e]
  rfl
/-- the table of rounds lies in the first block -/
def Rnd (w : World) : Prop := ∃ t : TypeId, Blk w 0 t [.int .u64 30, .int .u64 13787848793156543929, .int .u64 27, .int .u64 10723151780598845931, .int .u64 31, .int .u64 1]
theorem Rnd.lt {w : World} (h : Rnd w) : 0 < w.heap.size := by obtain ⟨t, h⟩ := h; exact Blk.lt h
theorem Rnd.below {w w' : World} {B : Nat} (h : Rnd w) (hb : Below B w w') (hB : 0 < B) : Rnd w' := by obtain ⟨t, h⟩ := h; exact ⟨t, Blk.below h hb hB⟩
theorem Rnd.but {w w' : World} {g : Nat} (h : Rnd w) (hb : But g w w') (hg : 0 ≠ g) : Rnd w' := by obtain ⟨t, h⟩ := h; exact ⟨t, Blk.but h hb hg⟩
theorem Rnd.blk {w : World} (h : Rnd w) : ∃ t : TypeId, Blk w 0 t [.int .u64 30, .int .u64 13787848793156543929, .int .u64 27, .int .u64 10723151780598845931, .int .u64 31, .int .u64 1] := h
theorem Kp.rnd {x y : World} {G : List Nat} (h : Kp x G y) (hR : Rnd x) (hg : 0 ∉ G) : Rnd y := by obtain ⟨t, hR⟩ := hR; exact ⟨t, h.blk hR hg⟩
def mixK (a b : Int) : Nat → Int
  | 0 => mix0 a b
  | 1 => rndF (mix0 a b) 1073741824 13787848793156543929
  | 2 => rndF (rndF (mix0 a b) 1073741824 13787848793156543929) 134217728 10723151780598845931
  | _ => mixF a b
theorem mixK_u64 (a b : Int) (k : Nat) : U64 (mixK a b k) := by
  match k with
  | 0 => exact mix0_u64 a b
  | 1 => exact rndF_u64 _ _ _
  | 2 => exact rndF_u64 _ _ _
  | k + 3 => exact mixF_u64 a b
theorem sizeRnd : (Tryd.prog.info? 146).map (·.size) = some 2 := by kernel_rfl
theorem sizeRnds : (Tryd.prog.info? 147).map (·.size) = some 6 := by kernel_rfl
theorem zeroRnd : (Tryd.prog.info? 146).map (·.zero) = some (some (.agg #[.int .u64 0, .int .u64 0])) := by kernel_rfl
set_option maxHeartbeats 4000000 in
theorem mix_any (a b : Int) (w : World) (ha : U64 a) (hb : U64 b) (hR : Rnd w) : Calls Tryd.prog 81 #[.int .u64 a, .int .u64 b] w fun e w' => e = .returned (.int .u64 (mixF a b)) ∧ Below w.heap.size w w' := by
  obtain ⟨a0, a1⟩ := ha
  obtain ⟨b0, b1⟩ := hb
  have i0 : ∀ w, (Instr.index 147 (.agg #[.int .u64 30, .int .u64 13787848793156543929, .int .u64 27, .int .u64 10723151780598845931, .int .u64 31, .int .u64 1]) (.int .i64 0)).run Tryd.prog w = .ok (.agg #[.int .u64 30, .int .u64 13787848793156543929]) w := fun _ => by kernel_rfl
  have i1 : ∀ w, (Instr.index 147 (.agg #[.int .u64 30, .int .u64 13787848793156543929, .int .u64 27, .int .u64 10723151780598845931, .int .u64 31, .int .u64 1]) (.int .i64 1)).run Tryd.prog w = .ok (.agg #[.int .u64 27, .int .u64 10723151780598845931]) w := fun _ => by kernel_rfl
  have i2 : ∀ w, (Instr.index 147 (.agg #[.int .u64 30, .int .u64 13787848793156543929, .int .u64 27, .int .u64 10723151780598845931, .int .u64 31, .int .u64 1]) (.int .i64 2)).run Tryd.prog w = .ok (.agg #[.int .u64 31, .int .u64 1]) w := fun _ => by kernel_rfl
  have hm0 : IntKind.u64.wrap (a + IntKind.u64.wrap (11400714819323198485 * IntKind.u64.wrap (b + 1))) = mix0 a b := rfl
  obtain ⟨tR, J⟩ := hR.blk
  clear hR
  go_enter Tryd.func81, Tryd.ntmps81
  go_wp2_with (first | (refine wpl_load (by rfl) 147 _ (by rfl) 0 (by rfl) tR _ J _ Tryd.underlying147 rfl _ sizeRnds (by rfl) ?_))
  go_loopw [5, 14] (fun x i wr => ∃ k : Nat, k ≤ 3 ∧ i = .int .i64 k ∧ x = .int .u64 (mixK a b k) ∧ Below w.heap.size w wr) (fun _ i _ => 3 - (intOf i).toNat)
  case atStart => exact ⟨0, by omega, rfl, rfl, Below.refl _ _⟩
  case round =>
    obtain ⟨k, hk, rfl, rfl, hB⟩ := hrel
    obtain ⟨wo, rfl⟩ : ∃ wo : World, wo = wr := ⟨wr, rfl⟩
    clear hm0 J
    have hX := mixK_u64 a b k
    obtain ⟨x0, x1⟩ := hX
    have : k = 0 ∨ k = 1 ∨ k = 2 ∨ k = 3 := by omega
    rcases this with rfl | rfl | rfl | rfl
    · skip
      go_wp2_with (first
        | (refine wpl_alloc (by rfl) 146 (by rfl) (.agg #[.int .u64 0, .int .u64 0]) [.int .u64 0, .int .u64 0] zeroRnd rfl ?_; intro wa Ja sa ba)
        | (refine wpl_store (by rfl) 146 _ _ (by rfl) wo.heap.size (by rfl) _ (by rfl) [.int .u64 30, .int .u64 13787848793156543929] rfl 146 _ Ja (by rfl) _ sizeRnd (by rfl) (by simp [Value.oneCell']) ?_; intro wb Jb sb gb)
        | (refine wpl_loadf (by rfl) 110 _ (by rfl) wo.heap.size 0 (by rfl) _ _ Jb _ rfl _ Tryd.underlying110 rfl ?_)
        | (refine wpl_loadf (by rfl) 22 _ (by rfl) wo.heap.size 1 (by rfl) _ _ Jb _ rfl _ Tryd.underlying22 rfl ?_))
      have Bb := (hB.trans (ba.mono hB.size)).trans (gb.below (by have := hB.size; omega) hB.size)
      exact ⟨⟨1, by omega, rfl, rfl, Bb⟩, by simp [intOf] <;> decide⟩
    · skip
      go_wp2_with (first
        | (refine wpl_alloc (by rfl) 146 (by rfl) (.agg #[.int .u64 0, .int .u64 0]) [.int .u64 0, .int .u64 0] zeroRnd rfl ?_; intro wa Ja sa ba)
        | (refine wpl_store (by rfl) 146 _ _ (by rfl) wo.heap.size (by rfl) _ (by rfl) [.int .u64 27, .int .u64 10723151780598845931] rfl 146 _ Ja (by rfl) _ sizeRnd (by rfl) (by simp [Value.oneCell']) ?_; intro wb Jb sb gb)
        | (refine wpl_loadf (by rfl) 110 _ (by rfl) wo.heap.size 0 (by rfl) _ _ Jb _ rfl _ Tryd.underlying110 rfl ?_)
        | (refine wpl_loadf (by rfl) 22 _ (by rfl) wo.heap.size 1 (by rfl) _ _ Jb _ rfl _ Tryd.underlying22 rfl ?_))
      have Bb := (hB.trans (ba.mono hB.size)).trans (gb.below (by have := hB.size; omega) hB.size)
      exact ⟨⟨2, by omega, rfl, rfl, Bb⟩, by simp [intOf] <;> decide⟩
    · skip
      go_wp2_with (first
        | (refine wpl_alloc (by rfl) 146 (by rfl) (.agg #[.int .u64 0, .int .u64 0]) [.int .u64 0, .int .u64 0] zeroRnd rfl ?_; intro wa Ja sa ba)
        | (refine wpl_store (by rfl) 146 _ _ (by rfl) wo.heap.size (by rfl) _ (by rfl) [.int .u64 31, .int .u64 1] rfl 146 _ Ja (by rfl) _ sizeRnd (by rfl) (by simp [Value.oneCell']) ?_; intro wb Jb sb gb)
        | (refine wpl_loadf (by rfl) 110 _ (by rfl) wo.heap.size 0 (by rfl) _ _ Jb _ rfl _ Tryd.underlying110 rfl ?_)
        | (refine wpl_loadf (by rfl) 22 _ (by rfl) wo.heap.size 1 (by rfl) _ _ Jb _ rfl _ Tryd.underlying22 rfl ?_))
      have Bb := (hB.trans (ba.mono hB.size)).trans (gb.below (by have := hB.size; omega) hB.size)
      exact ⟨⟨3, by omega, rfl, by show _ = Value.int .u64 (rndF (mixK a b 2) 2147483648 1); unfold rndF; rw [Int.mul_one], Bb⟩, by simp [intOf] <;> decide⟩
    · skip
      go_wp2
      go_ret
      exact ⟨rfl, hB⟩
end Go.Proofs.YtachhbbofemfdaaDoor
namespace Go.Proofs.YtachhbbofemfdaaDoor
open Go.RowKit
set_option linter.unusedSimpArgs false
set_option linter.unusedVariables false
set_option maxRecDepth 100000
theorem alloc_cell {w : World} {b i : Nat} {v : Value} {o : Obj} (h : w.cell? ⟨b, i, none⟩ = some v) : (w.alloc o).cell? ⟨b, i, none⟩ = some v := (World.cell?_alloc_lt w o _ (World.block_lt_of_cell? w _ h)).trans h
theorem alloc_size {w : World} {N : Nat} {o : Obj} (h : N ≤ w.heap.size) : N ≤ (w.alloc o).heap.size := by simp; omega
theorem but_cell {g b i : Nat} {w w' : World} {v : Value} (hg : But g w w') (h : w.cell? ⟨b, i, none⟩ = some v) (hne : b ≠ g) : w'.cell? ⟨b, i, none⟩ = some v := (World.cell?_of_block (hg.block b (World.block_lt_of_cell? w _ h) (by simpa using hne))).trans h
theorem far_cell {w : World} {b i : Nat} {v u : Value} {p : Addr} (h : w.cell? ⟨b, i, none⟩ = some v) (hne : b ≠ p.block) : (w.setCell p u).cell? ⟨b, i, none⟩ = some v := by
  rw [World.cell?_setCell_other w p _ u (fun e => hne (by rw [e]))]; exact h
theorem far_size {w : World} {N : Nat} {p : Addr} {u : Value} (h : N ≤ w.heap.size) : N ≤ (w.setCell p u).heap.size := by simpa [World.setCell] using h
theorem Blk.far {w : World} {b : Nat} {t : TypeId} {cs : List Value} {p : Addr} {u : Value} (h : Blk w b t cs) (hne : b ≠ p.block) : Blk (w.setCell p u) b t cs := (Below.heap_setCell w p u b hne).trans h
theorem bcell' {g : Nat} {W w1 : World} (hb : But g W w1) : (∀ b o, b < W.heap.size → b ≠ g → w1.cell? ⟨b, o, none⟩ = W.cell? ⟨b, o, none⟩) ∧ (∀ b o, b < W.heap.size → b ≠ g → w1.frozen? ⟨b, o, none⟩ = W.frozen? ⟨b, o, none⟩) :=
  ⟨fun b o h hn => World.cell?_of_block (hb.block b h (by simpa using hn)), fun b o h hn => World.frozen?_of_block (hb.block b h (by simpa using hn))⟩
theorem realloc_cell {w : World} {o o' : Obj} {b i : Nat} {v : Value} (h : (w.alloc o).cell? ⟨b, i, none⟩ = some v) (hb : b < w.heap.size) : (w.alloc o').cell? ⟨b, i, none⟩ = some v := (World.cell?_alloc_lt w o' _ hb).trans ((World.cell?_alloc_lt w o _ hb).symm.trans h)
theorem realloc_size {w : World} {o o' : Obj} {N : Nat} (h : N ≤ (w.alloc o).heap.size) : N ≤ (w.alloc o').heap.size := by simpa using h
theorem realloc_below {w0 w : World} {o o' : Obj} {B : Nat} (h : Below B w0 (w.alloc o)) (hB : B ≤ w.heap.size) : Below B w0 (w.alloc o') :=
  ⟨h.os, h.tape, h.output, by have := h.size; simp at this ⊢; omega, fun k hk => (heap_alloc_old w o' (by omega)).trans ((heap_alloc_old w o (by omega)).symm.trans (h.block k hk))⟩
theorem blk_step {w w' : World} {b : Nat} {t : TypeId} {cs : List Value} (h : Blk w b t cs) (hb : Below w.heap.size w w') : Blk w' b t cs := h.below hb h.lt
theorem blk_first {w w' : World} {t : TypeId} {cs : List Value} (hb : Below (w.alloc (.cells cs.toArray t)).heap.size (w.alloc (.cells cs.toArray t)) w') : Blk w' w.heap.size t cs := (Blk.new w t cs.toArray cs rfl).below hb (by simp)
theorem blk_stepB {w w' : World} {b g : Nat} {t : TypeId} {cs : List Value} (h : Blk w b t cs) (hb : But g w w') (hne : b ≠ g) : Blk w' b t cs := h.but hb hne
theorem blk_firstB {w w' : World} {g : Nat} {t : TypeId} {cs : List Value} (hb : But g (w.alloc (.cells cs.toArray t)) w') (hne : w.heap.size ≠ g) : Blk w' w.heap.size t cs := (Blk.new w t cs.toArray cs rfl).but hb hne
theorem far_below {B : Nat} {w0 w : World} {p : Addr} {u : Value} (h : Below B w0 w) (hp : B ≤ p.block) : Below B w0 (w.setCell p u) := h.setCell hp u
theorem realloc_blk {w : World} {o o' : Obj} {b : Nat} {t : TypeId} {cs : List Value} (h : Blk (w.alloc o) b t cs) (hb : b < w.heap.size) : Blk (w.alloc o') b t cs := (heap_alloc_old w o' hb).trans ((heap_alloc_old w o hb).symm.trans h)
end Go.Proofs.YtachhbbofemfdaaDoor
namespace Go.Proofs.YtachhbbofemfdaaDoor
open Go.RowKit
set_option linter.unusedSimpArgs false
set_option linter.unusedVariables false
set_option maxRecDepth 100000
/-- bytes as a number, the least first -/
def wordF : List Int → Int
  | [] => 0
  | x :: r => x + 256 * wordF r
theorem wordF_app (l : List Int) (x : Int) : wordF (l ++ [x]) = wordF l + x * 256 ^ l.length := by
  induction l with
  | nil => simp [wordF]
  | cons y r ih =>
    simp only [List.cons_append, wordF, ih, List.length_cons, Int.pow_succ]
    rw [Int.mul_add, Int.add_assoc]
    congr 2
    rw [Int.mul_comm (256 ^ r.length) 256, ← Int.mul_assoc, ← Int.mul_assoc, Int.mul_comm 256 x]
theorem wordF_rng {l : List Int} (h : Byt l) : 0 ≤ wordF l ∧ wordF l < 256 ^ l.length := by
  induction l with
  | nil => simp [wordF]
  | cons x r ih =>
    have h0 := h x (by simp)
    obtain ⟨h1, h2⟩ := ih fun y hy => h y (by simp [hy])
    simp only [wordF, List.length_cons, Int.pow_succ]
    omega
/-- behind q words of eight bytes -/
def hsF (h0 : Int) (l : List Int) : Nat → Int
  | 0 => h0
  | q + 1 => mixF (hsF h0 l q) (wordF ((l.drop (8 * q)).take 8))
def tagF (k0 k1 : Int) (l : List Int) : Int := mixF (hsF (mixF k0 k1) l ((l.length + 7) / 8)) l.length
theorem hsF_u64 {h0 : Int} (h : U64 h0) (l : List Int) (q : Nat) : U64 (hsF h0 l q) := by
  cases q with
  | zero => exact h
  | succ q => exact mixF_u64 _ _
theorem word_take {l : List Int} (k : Nat) (hk : k < l.length) : wordF (l.take (k + 1)) = wordF (l.take k) + atB l k * 256 ^ k := by
  rw [take_succ' l k hk, wordF_app, List.length_take, Nat.min_eq_left (by omega)]
theorem pow8_le {k : Nat} (h : k ≤ 8) : (256 : Int) ^ k ≤ 18446744073709551616 := by
  have : k = 0 ∨ k = 1 ∨ k = 2 ∨ k = 3 ∨ k = 4 ∨ k = 5 ∨ k = 6 ∨ k = 7 ∨ k = 8 := by omega
  rcases this with rfl | rfl | rfl | rfl | rfl | rfl | rfl | rfl | rfl <;> decide
theorem word_u64 {l : List Int} (h : Byt l) (hl : l.length ≤ 8) : U64 (wordF l) := by
  obtain ⟨h0, h1⟩ := wordF_rng h
  have := pow8_le hl
  unfold U64
  omega
abbrev one64 (x : Int) : List Value := [.int .u64 x]
abbrev oneI (x : Int) : List Value := [.int .i64 x]
theorem sizeU64' : (Tryd.prog.info? 22).map (·.size) = some 1 := by kernel_rfl
theorem sizeI64' : (Tryd.prog.info? 3).map (·.size) = some 1 := by kernel_rfl
set_option maxHeartbeats 4000000 in
theorem mix1_no (bs bh bw : Nat) (w : World) (hS : Blk w bs 3 (oneI 0)) :
    Calls Tryd.prog 97 #[.pointer (some ⟨bs, 0, none⟩), .pointer (some ⟨bh, 0, none⟩), .pointer (some ⟨bw, 0, none⟩)] w fun e w' => e = .returned (.tuple #[]) ∧ w = w' := by
  go_enter Tryd.func97, Tryd.ntmps97
  go_wp2_with (first | (refine wpl_loadf (by rfl) 3 _ (by rfl) bs 0 (by rfl) _ _ hS _ rfl _ Tryd.underlying3 rfl ?_))
  exact bodyPost_end (v := .tuple #[]) (by simp [results, Tryd.results97]) rfl ⟨rfl, rfl⟩
set_option maxHeartbeats 4000000 in
theorem mix1_yes (bs bh bw : Nat) (s h wd : Int) (w : World) (hs : 0 < s) (hh : U64 h) (hwd : U64 wd) (hS : Blk w bs 3 (oneI s)) (hH : Blk w bh 22 (one64 h)) (hW : Blk w bw 22 (one64 wd)) (hR : Rnd w) (h1 : bs ≠ bh) (h2 : bs ≠ bw) (h3 : bh ≠ bw) :
    Calls Tryd.prog 97 #[.pointer (some ⟨bs, 0, none⟩), .pointer (some ⟨bh, 0, none⟩), .pointer (some ⟨bw, 0, none⟩)] w fun e w' => e = .returned (.tuple #[]) ∧ Blk w' bs 3 (oneI 0) ∧ Blk w' bh 22 (one64 (mixF h wd)) ∧ Blk w' bw 22 (one64 0) ∧ Kp w [bs, bh, bw] w' := by
  have d0 : decide (0 < s) = true := decide_eq_true hs
  have l1 := hS.lt
  have l2 := hH.lt
  have l3 := hW.lt
  have hM := mix_any h wd w hh hwd hR
  clear hs hh hwd
  go_enter Tryd.func97, Tryd.ntmps97
  go_wp2_with (first
    | (refine wpl_loadf (by rfl) 3 _ (by rfl) bs 0 (by rfl) _ _ hS _ rfl _ Tryd.underlying3 rfl ?_)
    | (refine wpl_loadf (by rfl) 22 _ (by rfl) bh 0 (by rfl) _ _ hH _ rfl _ Tryd.underlying22 rfl ?_)
    | (refine wpl_loadf (by rfl) 22 _ (by rfl) bw 0 (by rfl) _ _ hW _ rfl _ Tryd.underlying22 rfl ?_)
    | (go_at_call 81; ((with_reducible refine hM.mono ?_); rintro e w1 ⟨rfl, b1⟩; (have S1 := hS.below b1 l1); (have H1 := hH.below b1 l2); (have W1 := hW.below b1 l3)))
    | ((refine wpl_storeg (by rfl) 22 _ _ (by rfl) bh 0 (by rfl) (.int .u64 (mixF h wd)) (by rfl) (by rfl) (by simp [Value.oneCell']) _ _ (one64 (mixF h wd)) H1 (by simp) sizeU64' (by rfl) ?_; intro w2 H2 s2 g2); (have S2 := S1.but g2 h1); (have W2 := W1.but g2 (Ne.symm h3)))
    | ((refine wpl_storeg (by rfl) 22 _ _ (by rfl) bw 0 (by rfl) (.int .u64 0) (by rfl) (by rfl) (by simp [Value.oneCell']) _ _ (one64 0) W2 (by simp) sizeU64' (by rfl) ?_; intro w3 W3 s3 g3); (have S3 := S2.but g3 h2); (have H3 := H2.but g3 h3))
    | ((refine wpl_storeg (by rfl) 3 _ _ (by rfl) bs 0 (by rfl) (.int .i64 0) (by rfl) (by rfl) (by simp [Value.oneCell']) _ _ (oneI 0) S3 (by simp) sizeI64' (by rfl) ?_; intro w4 S4 s4 g4)))
  exact bodyPost_end (v := .tuple #[]) (by simp [results, Tryd.results97]) rfl ⟨rfl, S4, H3.but g4 (Ne.symm h1), W3.but g4 (Ne.symm h2), (((Kp.of_below b1).but g2 (.inr (by simp))).but g3 (.inr (by simp))).but g4 (.inr (by simp))⟩
/-- eight bytes at most: the next one goes above -/
theorem or_word {wd c : Int} (s : Nat) (hs : s < 8) (h0 : 0 ≤ wd) (h1 : wd < 256 ^ s) (c0 : 0 ≤ c) (c1 : c ≤ 255) : bits .or .u64 wd (c * 256 ^ s) = wd + c * 256 ^ s := by
  obtain ⟨a, rfl⟩ : ∃ a : Nat, wd = a := ⟨wd.toNat, by omega⟩
  obtain ⟨b, rfl⟩ : ∃ b : Nat, c = b := ⟨c.toNat, by omega⟩
  have e : ((b : Int) * 256 ^ s) = ((b * 256 ^ s : Nat) : Int) := by simp
  have ha : a < 256 ^ s := by exact_mod_cast h1
  have hb : b * 256 ^ s ≤ 255 * 256 ^ s := Nat.mul_le_mul_right _ (by omega)
  have hp : 256 ^ s * 256 ≤ 18446744073709551616 := by
    have : s = 0 ∨ s = 1 ∨ s = 2 ∨ s = 3 ∨ s = 4 ∨ s = 5 ∨ s = 6 ∨ s = 7 := by omega
    rcases this with rfl | rfl | rfl | rfl | rfl | rfl | rfl | rfl <;> decide
  rw [e, Go.u64_or _ _ (by omega) (by omega) (by omega) (by omega)]
  have h3 := Nat.two_pow_add_eq_or_of_lt (b := a) (i := 8 * s) (by rw [Nat.pow_mul]; exact ha) b
  rw [Nat.pow_mul, show (2 : Nat) ^ 8 = 256 from rfl] at h3
  simp only [Int.toNat_natCast]
  rw [Nat.or_comm, Nat.mul_comm b, ← h3]
  omega
theorem pw8 {c : Int} (s : Nat) (hs : s < 8) (c0 : 0 ≤ c) (c1 : c ≤ 255) : U64 (c * 256 ^ s) := by
  have : s = 0 ∨ s = 1 ∨ s = 2 ∨ s = 3 ∨ s = 4 ∨ s = 5 ∨ s = 6 ∨ s = 7 := by omega
  unfold U64
  rcases this with rfl | rfl | rfl | rfl | rfl | rfl | rfl | rfl <;> omega
theorem shl8 {c : Int} (s : Nat) (hs : s < 8) (c0 : 0 ≤ c) (c1 : c ≤ 255) : IntKind.u64.wrap (c * 2 ^ (8 * s)) = c * 256 ^ s := by
  obtain ⟨h0, h1⟩ := pw8 s hs c0 c1
  rw [Int.pow_mul, IntKind.wrap_u64]
  show (c * 256 ^ s) % 18446744073709551616 = _
  omega
set_option maxHeartbeats 4000000 in
theorem step2_lt (bs bw bf : Nat) (s : Nat) (c wd : Int) (fv : Value) (w : World) (hs : s < 7) (c0 : 0 ≤ c) (c1 : c ≤ 255) (h0 : 0 ≤ wd) (h1 : wd < 256 ^ s) (hS : Blk w bs 3 (oneI s)) (hW : Blk w bw 22 (one64 wd)) (hsw : bs ≠ bw) :
    Calls Tryd.prog 98 #[.int .u8 c, .pointer (some ⟨bw, 0, none⟩), .pointer (some ⟨bs, 0, none⟩), .pointer (some ⟨bf, 0, none⟩)] w fun e w' => e = .returned (.tuple #[]) ∧ Blk w' bs 3 (oneI ((s + 1 : Nat) : Int)) ∧ Blk w' bw 22 (one64 (wd + c * 256 ^ s)) ∧ Kp w [bs, bw] w' := by
  have e1 := or_word s (by omega) h0 h1 c0 c1
  have e2 := shl8 s (by omega) c0 c1
  have q1 := hS.drew.cell (i := 0) rfl
  have q2 := hW.drew.cell (i := 0) rfl
  have q3 := hW.drew.frozen 0
  go_enter Tryd.func98, Tryd.ntmps98
  have hs0 : (0 : Int) ≤ s := by omega
  have hs1 : (s : Int) < 7 := by omega
  go_wp2
  go_region
  have W1 : Blk (w.setCell ⟨bw, 0, none⟩ (.int .u64 (wd + c * 256 ^ s))).drew bw 22 (one64 (wd + c * 256 ^ s)) := (hW.set 0 _).drew
  have S1 : Blk (w.setCell ⟨bw, 0, none⟩ (.int .u64 (wd + c * 256 ^ s))).drew bs 3 (oneI s) := (hS.far hsw).drew
  have K1 : Kp w [bs, bw] (w.setCell ⟨bw, 0, none⟩ (.int .u64 (wd + c * 256 ^ s))).drew := ((Kp.refl w _).set (.inr (by simp))).drew
  generalize (w.setCell ⟨bw, 0, none⟩ (.int .u64 (wd + c * 256 ^ s))).drew = w1 at W1 S1 K1 ⊢
  have d8 : ((s : Int) + 1 == 8) = false := by simp; omega
  clear q1 q2 q3 e1 e2 hS hW
  go_wp2_with (first
    | (refine wpl_loadf (by rfl) 3 _ (by rfl) bs 0 (by rfl) _ _ S1 _ rfl _ Tryd.underlying3 rfl ?_)
    | ((refine wpl_storeg (by rfl) 3 _ _ (by rfl) bs 0 (by rfl) (.int .i64 ((s : Int) + 1)) (by rfl) (by rfl) (by simp [Value.oneCell']) _ _ (oneI ((s : Int) + 1)) S1 (by simp) sizeI64' (by rfl) ?_; intro w2 S2 s2 g2); (have W2 := W1.but g2 (Ne.symm hsw)))
    | (refine wpl_loadf (by rfl) 3 _ (by rfl) bs 0 (by rfl) _ _ S2 _ rfl _ Tryd.underlying3 rfl ?_))
  exact bodyPost_end (v := .tuple #[]) (by simp [results, Tryd.results98]) rfl ⟨rfl, by simpa using S2, W2, K1.but g2 (.inr (by simp))⟩
theorem kp_mono {x y : World} {G G' : List Nat} (h : Kp x G y) (hs : ∀ b, b ∈ G → b ∈ G') : Kp x G' y := ⟨h.os, h.tape, h.output, h.size, fun b hb hn => h.block b hb fun hg => hn (hs b hg)⟩
set_option maxHeartbeats 4000000 in
theorem step2_eq (bs bw bh bf : Nat) (c wd h : Int) (w : World) (c0 : 0 ≤ c) (c1 : c ≤ 255) (h0 : 0 ≤ wd) (h1 : wd < 72057594037927936) (hh : U64 h) (hS : Blk w bs 3 (oneI 7)) (hW : Blk w bw 22 (one64 wd)) (hH : Blk w bh 22 (one64 h)) (hF : Blk w bf 1 [.func (.func 97) #[] #[.pointer (some ⟨bs, 0, none⟩), .pointer (some ⟨bh, 0, none⟩), .pointer (some ⟨bw, 0, none⟩)]]) (hR : Rnd w)
    (hsw : bs ≠ bw) (hsh : bs ≠ bh) (hhw : bh ≠ bw) (hfw : bf ≠ bw) (hfs : bf ≠ bs) (hz : 0 ≠ bw ∧ 0 ≠ bs) :
    Calls Tryd.prog 98 #[.int .u8 c, .pointer (some ⟨bw, 0, none⟩), .pointer (some ⟨bs, 0, none⟩), .pointer (some ⟨bf, 0, none⟩)] w fun e w' => e = .returned (.tuple #[]) ∧ Blk w' bs 3 (oneI 0) ∧ Blk w' bw 22 (one64 0) ∧ Blk w' bh 22 (one64 (mixF h (wd + c * 72057594037927936))) ∧ Kp w [bs, bh, bw] w' := by
  have e1 : bits .or .u64 wd (c * 72057594037927936) = wd + c * 72057594037927936 := or_word 7 (by omega) h0 h1 c0 c1
  have hu : U64 (wd + c * 72057594037927936) := by unfold U64; omega
  have q1 := hS.drew.cell (i := 0) rfl
  have q2 := hW.drew.cell (i := 0) rfl
  have q3 := hW.drew.frozen 0
  generalize hX : wd + c * 72057594037927936 = X at e1 hu ⊢
  go_enter Tryd.func98, Tryd.ntmps98
  go_wp2
  go_region
  have W1 : Blk (w.setCell ⟨bw, 0, none⟩ (.int .u64 X)).drew bw 22 (one64 X) := (hW.set 0 _).drew
  have S1 : Blk (w.setCell ⟨bw, 0, none⟩ (.int .u64 X)).drew bs 3 (oneI 7) := (hS.far hsw).drew
  have H1 : Blk (w.setCell ⟨bw, 0, none⟩ (.int .u64 X)).drew bh 22 (one64 h) := (hH.far hhw).drew
  have F1 : Blk (w.setCell ⟨bw, 0, none⟩ (.int .u64 X)).drew bf 1 [.func (.func 97) #[] #[.pointer (some ⟨bs, 0, none⟩), .pointer (some ⟨bh, 0, none⟩), .pointer (some ⟨bw, 0, none⟩)]] := (hF.far hfw).drew
  have K1 : Kp w [bs, bh, bw] (w.setCell ⟨bw, 0, none⟩ (.int .u64 X)).drew := ((Kp.refl w _).set (.inr (by simp))).drew
  have R1 : Rnd (w.setCell ⟨bw, 0, none⟩ (.int .u64 X)).drew := by obtain ⟨tR, hR'⟩ := hR; exact ⟨tR, Blk.drew (Blk.far hR' (show 0 ≠ _ from hz.1))⟩
  generalize (w.setCell ⟨bw, 0, none⟩ (.int .u64 X)).drew = w1 at W1 S1 H1 F1 K1 R1 ⊢
  clear q1 q2 q3 e1 hS hW hH hF hR hX
  go_wp2_with (first
    | (refine wpl_loadf (by rfl) 3 _ (by rfl) bs 0 (by rfl) _ _ S1 _ rfl _ Tryd.underlying3 rfl ?_)
    | ((refine wpl_storeg (by rfl) 3 _ _ (by rfl) bs 0 (by rfl) (.int .i64 8) (by rfl) (by rfl) (by simp [Value.oneCell']) _ _ (oneI 8) S1 (by simp) sizeI64' (by rfl) ?_; intro w2 S2 s2 g2); (have W2 := W1.but g2 (Ne.symm hsw)); (have H2 := H1.but g2 (Ne.symm hsh)); (have F2 := F1.but g2 hfs); (have R2 := R1.but g2 hz.2); (have hM := mix1_yes bs bh bw 8 h X w2 (by omega) hh hu S2 H2 W2 R2 hsh hsw hhw))
    | (refine wpl_loadf (by rfl) 3 _ (by rfl) bs 0 (by rfl) _ _ S2 _ rfl _ Tryd.underlying3 rfl ?_)
    | (refine wpl_loadf (by rfl) 1 _ (by rfl) bf 0 (by rfl) _ _ F2 _ rfl _ Tryd.underlying1 rfl ?_)
    | (go_at_call 97; ((with_reducible refine hM.mono ?_); rintro e w3 ⟨rfl, S3, H3, W3, K3⟩)))
  exact bodyPost_end (v := .tuple #[]) (by simp [results, Tryd.results98]) rfl ⟨rfl, S3, W3, H3, (K1.but g2 (.inr (by simp))).trans K3⟩
end Go.Proofs.YtachhbbofemfdaaDoor
namespace Go.Proofs.YtachhbbofemfdaaDoor
open Go.RowKit
set_option linter.unusedSimpArgs false
set_option linter.unusedVariables false
set_option maxRecDepth 100000
theorem zeroU64' : (Tryd.prog.info? 22).map (·.zero) = some (some (.int .u64 0)) := by kernel_rfl
theorem zeroI64' : (Tryd.prog.info? 3).map (·.zero) = some (some (.int .i64 0)) := by kernel_rfl
abbrev keyL (k0 k1 : Int) : List Value := [.int .u64 k0, .int .u64 k1]
abbrev keyV (k0 k1 : Int) : Value := .agg #[.int .u64 k0, .int .u64 k1]
theorem sizeKey : (Tryd.prog.info? 29).map (·.size) = some 2 := by kernel_rfl
theorem zeroKey : (Tryd.prog.info? 29).map (·.zero) = some (some (keyV 0 0)) := by kernel_rfl
/-- where the bytes have come to -/
theorem word_next {l : List Int} (q s : Nat) (h : 8 * q + s < l.length) : wordF ((l.drop (8 * q)).take s) + atB l (8 * q + s) * 256 ^ s = wordF ((l.drop (8 * q)).take (s + 1)) := by
  rw [word_take s (by rw [List.length_drop]; omega)]
  congr 2
  unfold atB
  rw [List.getD_eq_getElem?_getD, List.getD_eq_getElem?_getD, List.getElem?_drop]
theorem word_rng {l : List Int} (hb : Byt l) (q s : Nat) (hs : s ≤ 8) : 0 ≤ wordF ((l.drop (8 * q)).take s) ∧ wordF ((l.drop (8 * q)).take s) < 256 ^ s := by
  obtain ⟨h0, h1⟩ := wordF_rng ((hb.drop (8 * q)).take s)
  have hl : ((l.drop (8 * q)).take s).length ≤ s := List.length_take_le _ _
  obtain ⟨d, hd⟩ : ∃ d, s = ((l.drop (8 * q)).take s).length + d := ⟨s - ((l.drop (8 * q)).take s).length, by omega⟩
  refine ⟨h0, Int.lt_of_lt_of_le h1 ?_⟩
  generalize ((l.drop (8 * q)).take s).length = e at hd
  subst hd
  rw [Int.pow_add]
  have a : (0 : Int) < 256 ^ e := Int.pow_pos (by omega)
  have b : (0 : Int) < 256 ^ d := Int.pow_pos (by omega)
  have c : (256 : Int) ^ e * 1 ≤ 256 ^ e * 256 ^ d := Int.mul_le_mul_of_nonneg_left (by omega) (by omega)
  omega
theorem tag_even {k0 k1 : Int} {l : List Int} {q : Nat} (h : l.length = 8 * q) : tagF k0 k1 l = mixF (hsF (mixF k0 k1) l q) l.length := by
  unfold tagF
  rw [show (l.length + 7) / 8 = q by omega]
theorem tag_odd {k0 k1 : Int} {l : List Int} {q s : Nat} (h : l.length = 8 * q + s) (h0 : 0 < s) (h8 : s < 8) : tagF k0 k1 l = mixF (mixF (hsF (mixF k0 k1) l q) (wordF ((l.drop (8 * q)).take s))) l.length := by
  unfold tagF
  rw [show (l.length + 7) / 8 = q + 1 by omega]
  show mixF (mixF _ (wordF ((l.drop (8 * q)).take 8))) _ = _
  rw [List.take_of_length_le (by rw [List.length_drop]; omega), List.take_of_length_le (by rw [List.length_drop]; omega)]
theorem word_full {l : List Int} (q s : Nat) (hs : s ≤ 8) (h : s = 8 ∨ 8 * q + s = l.length) : wordF ((l.drop (8 * q)).take s) = wordF ((l.drop (8 * q)).take 8) := by
  rcases h with rfl | h
  · rfl
  · rw [List.take_of_length_le (by rw [List.length_drop]; omega), List.take_of_length_le (by rw [List.length_drop]; omega)]
set_option maxHeartbeats 8000000 in
theorem rtag_any (k0 k1 : Int) (A : Option Addr) (n c : Nat) (l : List Int) (w : World) (hk0 : U64 k0) (hk1 : U64 k1) (hn : l.length = n) (h : Bs w 0 w.heap.size A l) (hm : n ≤ 1000000) (hnc : n ≤ c) (hcc : c ≤ 9223372036854775807) :
    Calls Tryd.prog 69 #[keyV k0 k1, .slice A n c] w fun e w' => e = .returned (.int .u64 (tagF k0 k1 l)) ∧ Below w.heap.size w w' := by
  have hM := rmix_any k0 k1
  obtain ⟨H0, hH0⟩ : ∃ H0, H0 = mixF k0 k1 := ⟨_, rfl⟩
  have hu0 : U64 H0 := by rw [hH0]; exact mixF_u64 _ _
  have HH := Lib.hid hH0
  rw [← hH0] at hM
  clear hH0
  have Hn := Lib.hid hn
  have hby := h.byt
  clear hn
  go_enter Tryd.func69, Tryd.ntmps69
  go_wp2_with (first
    | ((refine wpl_box (by rfl) 29 _ (by rfl) _ (keyL k0 k1) (by rfl) rfl ?_; intro w1 J1 s1 b1))
    | (refine wpl_loadf (by rfl) 22 _ (by rfl) w.heap.size 0 (by rfl) _ _ J1 _ rfl _ Tryd.underlying22 rfl ?_)
    | (refine wpl_loadf (by rfl) 22 _ (by rfl) w.heap.size 1 (by rfl) _ _ J1 _ rfl _ Tryd.underlying22 rfl ?_)
    | (go_at_call 85; ((with_reducible refine (hM _ hk0 hk1).mono ?_); rintro e w' ⟨rfl, rfl⟩)))
  clear hM
  go_loopw [5, 6] (fun hv i wr => ∃ q : Nat, 8 * q ≤ n + 7 ∧ i = .int .i64 ((8 * q : Nat) : Int) ∧ hv = .int .u64 (hsF H0 l q) ∧ Below w.heap.size w wr) (fun _ i _ => n + 8 - (intOf i).toNat)
  case atStart => exact ⟨0, by omega, rfl, rfl, b1⟩
  case round =>
    obtain ⟨q, hq, rfl, rfl, hB⟩ := hrel
    clear J1 b1 s1
    by_cases hlt : 8 * q < n
    · obtain ⟨wo, rfl⟩ : ∃ wo : World, wo = wr := ⟨wr, rfl⟩
      have hlt0 : (0 : Int) ≤ ((8 * q : Nat) : Int) := by omega
      have hltI : ((8 * q : Nat) : Int) < n := by omega
      have hq9 : ((8 * q : Nat) : Int) ≤ 1000000 := by omega
      obtain ⟨Q8, hQ8⟩ : ∃ Q8, 8 * q = Q8 := ⟨_, rfl⟩
      rw [hQ8] at hlt hlt0 hltI hq9 ⊢
      have HQ := Lib.hid hQ8
      clear hQ8 hq
      go_wp2
      go_loopw [7, 8] (fun wd k wr => ∃ s : Nat, s ≤ 8 ∧ k = .int .i64 s ∧ Q8 + s ≤ n ∧ wd = .int .u64 (wordF ((l.drop (8 * q)).take s)) ∧ Below w.heap.size w wr) (fun _ k _ => 8 - (intOf k).toNat)
      case atStart => exact ⟨0, by omega, rfl, by omega, rfl, hB⟩
      case round =>
        obtain ⟨s, hs8, rfl, hsn, rfl, hB2⟩ := hrel
        clear hB
        obtain ⟨u0, u1⟩ := word_rng hby q s hs8
        by_cases hs1 : s < 8
        · by_cases hs2 : Q8 + s < n
          · obtain ⟨b, o, rfl, _, hbw, hcell⟩ := (h.below hB2 (Nat.le_refl _)).at (by rw [Hn.out]; omega)
            have ck := hcell (Q8 + s) (by rw [Hn.out]; omega)
            have hc := hby.at (Q8 + s)
            have hnx := word_next (l := l) q s (by rw [Hn.out]; have := HQ.out; omega)
            rw [show 8 * q + s = Q8 + s from by rw [HQ.out]] at hnx
            obtain ⟨C, hC⟩ : ∃ C, atB l (Q8 + s) = C := ⟨_, rfl⟩
            rw [hC] at ck hc hnx
            obtain ⟨c0, c1⟩ := hc
            have e2 := shl8 s hs1 c0 c1
            obtain ⟨p0, p1⟩ := pw8 s hs1 c0 c1
            obtain ⟨x0, x1⟩ := word_u64 ((hby.drop (8 * q)).take (s + 1)) (by have := List.length_take_le (s + 1) (l.drop (8 * q)); omega)
            rw [← hnx] at x0 x1
            have e3 : IntKind.u64.wrap (wordF ((l.drop (8 * q)).take s) + C * 256 ^ s) = wordF ((l.drop (8 * q)).take (s + 1)) := by
              rw [← hnx, IntKind.wrap_u64]
              generalize C * 256 ^ s = P at x0 x1
              omega
            generalize hP : C * 256 ^ s = P at e2 e3 p0 p1
            generalize wordF ((l.drop (8 * q)).take s) = wd at e3 u0 u1
            generalize hX : wordF ((l.drop (8 * q)).take (s + 1)) = X at e3
            have HX := Lib.hid hX
            have hs0 : (0 : Int) ≤ s := by omega
            have hsI : (s : Int) < 8 := by omega
            have hsn2 : (Q8 : Int) + s < n := by omega
            have hq0 : (0 : Int) ≤ (Q8 : Int) + s := by omega
            clear hcell hC hnx x0 x1 hP hX u1
            go_wp2
            exact ⟨⟨s + 1, by omega, by go_num, by omega, by rw [HX.out], hB2⟩, by simp [intOf]; omega⟩
          · have d1 : decide ((s : Int) < 8) = true := decide_eq_true (by omega)
            have d2 : decide ((Q8 : Int) + s < n) = false := decide_eq_false (by omega)
            have hsI : (s : Int) < 8 := by omega
            clear u0 u1
            have HM : ∀ W, Calls Tryd.prog 85 #[.int .u64 (hsF H0 l q), .int .u64 (wordF ((l.drop (8 * q)).take s))] W fun e w' => e = .returned (.int .u64 (hsF H0 l (q + 1))) ∧ W = w' := fun W => by
              have hw := word_full (l := l) q s hs8 (by rw [Hn.out]; have := HQ.out; omega)
              have h1 := rmix_any (hsF H0 l q) (wordF ((l.drop (8 * q)).take s)) W (hsF_u64 hu0 l q) (by rw [hw]; exact word_u64 ((hby.drop _).take _) (List.length_take_le _ _))
              rw [hw] at h1 ⊢
              exact h1
            go_wp2_with (first | (go_at_call 85; ((with_reducible refine (HM _).mono ?_); rintro e w' ⟨rfl, rfl⟩)))
            exact ⟨⟨q + 1, by have := HQ.out; omega, by have := HQ.out; congr 1; omega, rfl, hB2⟩, by simp [intOf]; omega⟩
        · have d1 : decide ((s : Int) < 8) = false := decide_eq_false (by omega)
          clear u0 u1
          have HM : ∀ W, Calls Tryd.prog 85 #[.int .u64 (hsF H0 l q), .int .u64 (wordF ((l.drop (8 * q)).take s))] W fun e w' => e = .returned (.int .u64 (hsF H0 l (q + 1))) ∧ W = w' := fun W => by
            have hw := word_full (l := l) q s hs8 (by rw [Hn.out]; have := HQ.out; omega)
            have h1 := rmix_any (hsF H0 l q) (wordF ((l.drop (8 * q)).take s)) W (hsF_u64 hu0 l q) (by rw [hw]; exact word_u64 ((hby.drop _).take _) (List.length_take_le _ _))
            rw [hw] at h1 ⊢
            exact h1
          go_wp2_with (first | (go_at_call 85; ((with_reducible refine (HM _).mono ?_); rintro e w' ⟨rfl, rfl⟩)))
          exact ⟨⟨q + 1, by have := HQ.out; omega, by have := HQ.out; congr 1; omega, rfl, hB2⟩, by simp [intOf]; omega⟩
    · have HT : Hid (tagF k0 k1 l = mixF (hsF H0 l q) n) := by
        show tagF k0 k1 l = _
        unfold tagF
        rw [Hn.out, ← HH.out, show (n + 7) / 8 = q by omega]
      have hM := fun W => rmix_any (hsF H0 l q) n W (hsF_u64 hu0 l q) ⟨by omega, by omega⟩
      have hf : decide (8 * q < n) = false := decide_eq_false hlt
      have hf2 : decide (((8 * q : Nat) : Int) < n) = false := decide_eq_false (by omega)
      go_wp2_with (first | (go_at_call 85; ((with_reducible refine (hM _).mono ?_); rintro e w' ⟨rfl, rfl⟩)))
      go_ret
      exact ⟨by rw [HT.out]; rfl, hB⟩
theorem zeroFun : (Tryd.prog.info? 1).map (·.zero) = some (some .nilFunc) := by kernel_rfl
theorem sizeFun : (Tryd.prog.info? 1).map (·.size) = some 1 := by kernel_rfl
abbrev mixV (bs bh bw : Nat) : Value := .func (.func 97) #[] #[.pointer (some ⟨bs, 0, none⟩), .pointer (some ⟨bh, 0, none⟩), .pointer (some ⟨bw, 0, none⟩)]
abbrev stepV (bw bs bf : Nat) : Value := .func (.func 98) #[] #[.pointer (some ⟨bw, 0, none⟩), .pointer (some ⟨bs, 0, none⟩), .pointer (some ⟨bf, 0, none⟩)]
/-- the variables of Tag behind q words and s bytes -/
structure TagI (w0 : World) (bs bh bw bf : Nat) (H0 : Int) (l : List Int) (q s : Nat) (wr : World) : Prop where
  S : Blk wr bs 3 (oneI s)
  H : Blk wr bh 22 (one64 (hsF H0 l q))
  W : Blk wr bw 22 (one64 (wordF ((l.drop (8 * q)).take s)))
  F : Blk wr bf 1 [mixV bs bh bw]
  R : Rnd wr
  B : Below w0.heap.size w0 wr
set_option maxHeartbeats 16000000 in
theorem tag_any (k0 k1 : Int) (A : Option Addr) (n c : Nat) (l : List Int) (w : World) (hk0 : U64 k0) (hk1 : U64 k1) (hn : l.length = n) (h : Bs w 0 w.heap.size A l) (hm : n ≤ 1000000) (hnc : n ≤ c) (hcc : c ≤ 9223372036854775807) (hR : Rnd w) :
    Calls Tryd.prog 74 #[keyV k0 k1, .slice A n c] w fun e w' => e = .returned (.int .u64 (tagF k0 k1 l)) ∧ Below w.heap.size w w' := by
  have hw0 := hR.lt
  have Hn := Lib.hid hn
  have hby := h.byt
  have hM := fun W hr => mix_any k0 k1 W hk0 hk1 hr
  clear hn
  go_enter Tryd.func74, Tryd.ntmps74
  go_wp2_with (first
    | ((refine wpl_box (by rfl) 29 _ (by rfl) _ (keyL k0 k1) (by rfl) rfl ?_; intro w1 J1 s1 b1); (have R1 := hR.below b1 hw0))
    | (refine wpl_loadf (by rfl) 22 _ (by rfl) w.heap.size 0 (by rfl) _ _ J1 _ rfl _ Tryd.underlying22 rfl ?_)
    | (refine wpl_loadf (by rfl) 22 _ (by rfl) w.heap.size 1 (by rfl) _ _ J1 _ rfl _ Tryd.underlying22 rfl ?_)
    | (go_at_call 81; ((with_reducible refine (hM _ R1).mono ?_); rintro e w2 ⟨rfl, b2⟩; (have R2 := R1.below b2 R1.lt); (have z2 := b2.size)))
    | ((with_reducible show wpList _ _ _ (⟨some 5, _, _, _, _, _⟩ :: _) _ _); refine wpl_alloc (by rfl) 22 (by rfl) (.int .u64 0) (one64 0) zeroU64' rfl ?_; intro w3 H3 s3 b3; (have R3 := R2.below b3 R2.lt))
    | ((refine wpl_storeg (by rfl) 22 _ _ (by rfl) w2.heap.size 0 (by rfl) (.int .u64 (mixF k0 k1)) (by rfl) (by rfl) (by simp [Value.oneCell']) _ _ (one64 (mixF k0 k1)) H3 (by simp) sizeU64' (by rfl) ?_; intro w4 H4 s4 g4); (have R4 := R3.but g4 (by omega)))
    | ((with_reducible show wpList _ _ _ (⟨some 6, _, _, _, _, _⟩ :: _) _ _); refine wpl_alloc (by rfl) 22 (by rfl) (.int .u64 0) (one64 0) zeroU64' rfl ?_; intro w5 W5 s5 b5; (have H5 := H4.below b5 (by omega)))
    | ((with_reducible show wpList _ _ _ (⟨some 7, _, _, _, _, _⟩ :: _) _ _); refine wpl_alloc (by rfl) 3 (by rfl) (.int .i64 0) (oneI 0) zeroI64' rfl ?_; intro w6 S6 s6 b6; (have H6 := H5.below b6 (by omega)); (have W6 := W5.below b6 (by omega)))
    | ((refine wpl_storeg (by rfl) 22 _ _ (by rfl) w4.heap.size 0 (by rfl) (.int .u64 0) (by rfl) (by rfl) (by simp [Value.oneCell']) _ _ (one64 0) W6 (by simp) sizeU64' (by rfl) ?_; intro w7 W7 s7 g7); (have H7 := H6.but g7 (by omega)); (have S7 := S6.but g7 (by omega)))
    | ((refine wpl_storeg (by rfl) 3 _ _ (by rfl) w5.heap.size 0 (by rfl) (.int .i64 0) (by rfl) (by rfl) (by simp [Value.oneCell']) _ _ (oneI 0) S7 (by simp) sizeI64' (by rfl) ?_; intro w8 S8 s8 g8); (have H8 := H7.but g8 (by omega)); (have W8 := W7.but g8 (by omega)))
    | ((with_reducible show wpList _ _ _ (⟨some 8, _, _, _, _, _⟩ :: _) _ _); refine wpl_alloc (by rfl) 1 (by rfl) .nilFunc [.nilFunc] zeroFun rfl ?_; intro w9 F9 s9 b9; (have H9 := H8.below b9 (by omega)); (have W9 := W8.below b9 (by omega)); (have S9 := S8.below b9 (by omega)))
    | ((refine wpl_storeg (by rfl) 1 _ _ (by rfl) w8.heap.size 0 (by rfl) (mixV w5.heap.size w2.heap.size w4.heap.size) (by rfl) (by rfl) (by simp [Value.oneCell']) _ _ ([mixV w5.heap.size w2.heap.size w4.heap.size]) F9 (by simp) sizeFun (by rfl) ?_; intro w10 F10 s10 g10)))
  have hI0 : TagI w w5.heap.size w2.heap.size w4.heap.size w8.heap.size (mixF k0 k1) l 0 0 w10 := ⟨S9.but g10 (by omega), H9.but g10 (by omega), W9.but g10 (by omega), F10, (((((R4.below b5 R4.lt).below b6 (by omega)).but g7 (by omega)).but g8 (by omega)).below b9 (by omega)).but g10 (by omega), ((((((((b1.trans (b2.mono (by omega))).trans (b3.mono (by omega))).trans (g4.below (by omega) (by omega))).trans (b5.mono (by omega))).trans (b6.mono (by omega))).trans (g7.below (by omega) (by omega))).trans (g8.below (by omega) (by omega))).trans (b9.mono (by omega))).trans (g10.below (by omega) (by omega))⟩
  have hn1 : w5.heap.size ≠ w4.heap.size := by omega
  have hn2 : w5.heap.size ≠ w2.heap.size := by omega
  have hn3 : w2.heap.size ≠ w4.heap.size := by omega
  have hn4 : w8.heap.size ≠ w4.heap.size := by omega
  have hn5 : w8.heap.size ≠ w5.heap.size := by omega
  have hn6 : 0 ≠ w4.heap.size ∧ 0 ≠ w5.heap.size := by omega
  have hn7 : w8.heap.size ≠ w2.heap.size := by omega
  have hn8 : 0 ≠ w2.heap.size := by omega
  have hlo : w.heap.size ≤ w5.heap.size ∧ w.heap.size ≤ w2.heap.size ∧ w.heap.size ≤ w4.heap.size := by omega
  generalize w5.heap.size = bs at hI0 hn1 hn2 hn5 hn6 hlo ⊢
  generalize w4.heap.size = bw at hI0 hn1 hn3 hn4 hn6 hlo ⊢
  generalize w2.heap.size = bh at hI0 hn2 hn3 hn7 hn8 hlo ⊢
  generalize w8.heap.size = bf at hI0 hn4 hn5 hn7 ⊢
  have HH := Lib.hid (mixF_u64 k0 k1)
  generalize hH0 : mixF k0 k1 = H0 at hI0 HH ⊢
  have HH0 := Lib.hid hH0
  clear hH0 J1 R1 R2 R3 H3 H4 R4 W5 H5 S6 H6 W6 W7 H7 S7 S8 H8 W8 F9 H9 W9 S9 F10 b1 b2 b3 g4 b5 b6 g7 g8 b9 g10 s1 s3 s4 s5 s6 s7 s8 s9 s10 z2 hM
  go_loopw [21] (fun i wr => ∃ q s : Nat, s < 8 ∧ 8 * q + s ≤ n ∧ i = .int .i64 ((8 * q + s : Nat) : Int) ∧ TagI w bs bh bw bf H0 l q s wr) (fun i _ => n - (intOf i).toNat)
  case atStart => exact ⟨0, 0, by omega, by omega, rfl, hI0⟩
  case round =>
    obtain ⟨q, s, hs8, hsn, rfl, hI⟩ := hrel
    clear hI0
    obtain ⟨I, hIe⟩ : ∃ I, 8 * q + s = I := ⟨_, rfl⟩
    have HI := Lib.hid hIe
    rw [hIe] at hsn ⊢
    clear hIe
    have hh := hsF_u64 HH.out l q
    have hS := hI.S
    have hW := hI.W
    have hH := hI.H
    have hF := hI.F
    have hRr := hI.R
    by_cases hlt : I < n
    · obtain ⟨b, o, rfl, _, hbw, hcell⟩ := (h.below hI.B (Nat.le_refl _)).at (by rw [Hn.out]; omega)
      have ck := hcell I (by rw [Hn.out]; omega)
      have hc := hby.at I
      obtain ⟨u0, u1⟩ := word_rng hby q s (by omega)
      have hnx := word_next (l := l) q s (by rw [Hn.out, HI.out]; exact hlt)
      rw [show 8 * q + s = I from HI.out] at hnx
      obtain ⟨C, hC⟩ : ∃ C, atB l I = C := ⟨_, rfl⟩
      rw [hC] at ck hc hnx
      obtain ⟨c0, c1⟩ := hc
      have hq0 : (0 : Int) ≤ I := by omega
      have hq1 : (I : Int) < n := by omega
      clear hcell hC
      by_cases hs7 : s = 7
      · subst hs7
        have hSt := step2_eq bs bw bh bf C _ _ wr c0 c1 u0 u1 hh hS hW hH hF hRr hn1 hn2 hn3 hn4 hn5 hn6
        have hnx2 : wordF ((l.drop (8 * q)).take 7) + C * 72057594037927936 = wordF ((l.drop (8 * q)).take 8) := hnx
        rw [hnx2] at hSt
        clear hS hW hH hF hRr hnx hnx2 u0 u1
        go_wp2_with (first | (go_at_call 98; ((with_reducible refine hSt.mono ?_); rintro e w2 ⟨rfl, S2, W2, H2, K2⟩)))
        exact ⟨⟨q + 1, 0, by omega, by have := HI.out; omega, by have := HI.out; congr 1; omega, ⟨S2, H2, by simpa [wordF] using W2, K2.blk hI.F (by simp; omega), K2.rnd hI.R (by simp; omega), K2.toBelow hI.B hI.B.size (by simp; omega)⟩⟩, by simp [intOf]; omega⟩
      · have hSt := step2_lt bs bw bf s C _ (mixV bs bh bw) wr (by omega) c0 c1 u0 u1 hS hW hn1
        rw [hnx] at hSt
        clear hS hW hH hF hRr hnx u0 u1
        go_wp2_with (first | (go_at_call 98; ((with_reducible refine hSt.mono ?_); rintro e w2 ⟨rfl, S2, W2, K2⟩)))
        exact ⟨⟨q, s + 1, by omega, by have := HI.out; omega, by have := HI.out; congr 1; omega, ⟨S2, K2.blk hI.H (by simp; omega), W2, K2.blk hI.F (by simp; omega), K2.rnd hI.R (by simp; omega), K2.toBelow hI.B hI.B.size (by simp; omega)⟩⟩, by simp [intOf]; omega⟩
    · obtain rfl : n = I := by omega
      by_cases hs0 : s = 0
      · subst hs0
        have hM1 := mix1_no bs bh bw wr hS
        have hT : Hid (tagF k0 k1 l = mixF (hsF H0 l q) n) := by
          show tagF k0 k1 l = _
          rw [tag_even (q := q) (by rw [Hn.out]; exact HI.out.symm), HH0.out, Hn.out]
        have hM := mix_any (hsF H0 l q) n wr hh ⟨by omega, by omega⟩ hRr
        go_wp2_with (first
          | (refine wpl_loadf (by rfl) 1 _ (by rfl) bf 0 (by rfl) _ _ hF _ rfl _ Tryd.underlying1 rfl ?_)
          | (go_at_call 97; ((with_reducible refine hM1.mono ?_); rintro e w' ⟨rfl, rfl⟩))
          | (refine wpl_loadf (by rfl) 22 _ (by rfl) bh 0 (by rfl) _ _ hH _ rfl _ Tryd.underlying22 rfl ?_)
          | (go_at_call 81; ((with_reducible refine hM.mono ?_); rintro e w2 ⟨rfl, b2⟩)))
        go_ret
        exact ⟨by rw [hT.out]; rfl, hI.B.trans (b2.mono hI.B.size)⟩
      · have hM1 := mix1_yes bs bh bw s (hsF H0 l q) _ wr (by omega) hh (word_u64 ((hby.drop (8 * q)).take s) (by have := List.length_take_le s (l.drop (8 * q)); omega)) hS hH hW hRr hn2 hn1 hn3
        have hT : Hid (tagF k0 k1 l = mixF (mixF (hsF H0 l q) (wordF ((l.drop (8 * q)).take s))) n) := by
          show tagF k0 k1 l = _
          rw [tag_odd (q := q) (s := s) (by rw [Hn.out]; exact HI.out.symm) (by omega) hs8, HH0.out, Hn.out]
        have hM := fun W hr => mix_any (mixF (hsF H0 l q) (wordF ((l.drop (8 * q)).take s))) n W (mixF_u64 _ _) ⟨by omega, by omega⟩ hr
        go_wp2_with (first
          | (refine wpl_loadf (by rfl) 1 _ (by rfl) bf 0 (by rfl) _ _ hF _ rfl _ Tryd.underlying1 rfl ?_)
          | (go_at_call 97; ((with_reducible refine hM1.mono ?_); rintro e w2 ⟨rfl, S2, H2, W2, K2⟩; (have R2 : Rnd w2 := K2.rnd hI.R (by simp; omega)); (have B2 := K2.toBelow hI.B hI.B.size (by simp; omega))))
          | (refine wpl_loadf (by rfl) 22 _ (by rfl) bh 0 (by rfl) _ _ H2 _ rfl _ Tryd.underlying22 rfl ?_)
          | (go_at_call 81; ((with_reducible refine (hM _ R2).mono ?_); rintro e w3 ⟨rfl, b3⟩)))
        go_ret
        exact ⟨by rw [hT.out]; rfl, B2.trans (b3.mono B2.size)⟩
end Go.Proofs.YtachhbbofemfdaaDoor
namespace Go.Proofs.YtachhbbofemfdaaDoor
open Go.RowKit
set_option linter.unusedSimpArgs false
set_option linter.unusedVariables false
set_option maxRecDepth 100000
section
variable {P : Program} {w : World} {fn : Func} {tmps : Array Value}
theorem load_res {g : Nat} {T T' : TypeId} {cs : List Value} {d : TypeDesc} (hB : Blk w g T' cs) (hu : P.underlying T = some d) (hd : d.isRow = true) {n : Nat} (hi : (P.info? T).map (·.size) = some n) (hn : cs.length = n) : (loadVar T ⟨g, 0, none⟩).run P w = .ok (.agg cs.toArray) w := by
  subst hn
  exact run_loadVar_mid w g 0 T cs d hB.range hu hd hi
/-- one result, in memory -/
theorem res_c {c : Tmp} {T T' : TypeId} (h : fn.results = #[.cell c T]) {g : Nat} {cs : List Value} {d : TypeDesc} (hp : tmps.getD c undef = .pointer (some ⟨g, 0, none⟩)) (hB : Blk w g T' cs) (hu : P.underlying T = some d) (hd : d.isRow = true) {n : Nat} (hi : (P.info? T).map (·.size) = some n) (hn : cs.length = n) :
    (results fn tmps).run P w = .ok (.agg cs.toArray) w := by
  have hl := load_res hB hu hd hi hn
  rw [Array.getD_eq_getD_getElem?] at hp
  simp [results, h, hp, asAddr, Sem.run_bind, hl]
/-- a result in memory, and one more -/
theorem res_cx {c x : Tmp} {T T' : TypeId} (h : fn.results = #[.cell c T, .tmp x]) {g : Nat} {cs : List Value} {d : TypeDesc} (hp : tmps.getD c undef = .pointer (some ⟨g, 0, none⟩)) (hB : Blk w g T' cs) (hu : P.underlying T = some d) (hd : d.isRow = true) {n : Nat} (hi : (P.info? T).map (·.size) = some n) (hn : cs.length = n) {v : Value} (hv : tmps.getD x undef = v) :
    (results fn tmps).run P w = .ok (.tuple #[.agg cs.toArray, v]) w := by
  have hl := load_res hB hu hd hi hn
  subst hv
  rw [Array.getD_eq_getD_getElem?] at hp
  simp [results, h, hp, asAddr, Sem.run_bind, hl]
/-- a result in memory, and two more -/
theorem res_cxy {c x y : Tmp} {T T' : TypeId} (h : fn.results = #[.cell c T, .tmp x, .tmp y]) {g : Nat} {cs : List Value} {d : TypeDesc} (hp : tmps.getD c undef = .pointer (some ⟨g, 0, none⟩)) (hB : Blk w g T' cs) (hu : P.underlying T = some d) (hd : d.isRow = true) {n : Nat} (hi : (P.info? T).map (·.size) = some n) (hn : cs.length = n) {v u : Value} (hv : tmps.getD x undef = v) (hw : tmps.getD y undef = u) :
    (results fn tmps).run P w = .ok (.tuple #[.agg cs.toArray, v, u]) w := by
  have hl := load_res hB hu hd hi hn
  subst hv hw
  rw [Array.getD_eq_getD_getElem?] at hp
  simp [results, h, hp, asAddr, Sem.run_bind, hl]
/-- two results in memory, and one more -/
theorem res_ccx {c c' x : Tmp} {T T' : TypeId} (h : fn.results = #[.cell c T, .cell c' T, .tmp x]) {g g' : Nat} {cs cs' : List Value} {d : TypeDesc} (hp : tmps.getD c undef = .pointer (some ⟨g, 0, none⟩)) (hp' : tmps.getD c' undef = .pointer (some ⟨g', 0, none⟩)) (hB : Blk w g T' cs) (hB' : Blk w g' T' cs') (hu : P.underlying T = some d) (hd : d.isRow = true) {n : Nat} (hi : (P.info? T).map (·.size) = some n) (hn : cs.length = n) (hn' : cs'.length = n) {v : Value} (hv : tmps.getD x undef = v) :
    (results fn tmps).run P w = .ok (.tuple #[.agg cs.toArray, .agg cs'.toArray, v]) w := by
  have hl := load_res hB hu hd hi hn
  have hl' := load_res hB' hu hd hi hn'
  subst hv
  rw [Array.getD_eq_getD_getElem?] at hp hp'
  simp [results, h, hp, hp', asAddr, Sem.run_bind, hl, hl']
end
end Go.Proofs.YtachhbbofemfdaaDoor
namespace Go.Proofs.YtachhbbofemfdaaDoor
open Go.RowKit
set_option linter.unusedSimpArgs false
set_option linter.unusedVariables false
set_option maxRecDepth 100000
theorem tagF_u64 (k0 k1 : Int) (l : List Int) : U64 (tagF k0 k1 l) := mixF_u64 _ _
/-- the keys of a generation -/
def mkA (s g : Int) : Int := mixF s (2 * g)
def mkB (s g : Int) : Int := mixF s (2 * g + 1)
def padL : List Int := [112, 97, 100]
def labL : List Int := [116, 97, 103]
def padK (s g : Int) : Int := mixF (tagF (mkA s g) (mkB s g) padL) 1
def padF (s g nonce i : Int) : Int := mixF (mixF (padK s g) nonce) (i + 1)
def jtag (s g : Int) (l : List Int) : Int := tagF (mixF (tagF (mkA s g) (mkB s g) labL) 1) (mixF (tagF (mkA s g) (mkB s g) labL) 2) l
theorem mkA_u64 (s g : Int) : U64 (mkA s g) := mixF_u64 _ _
theorem mkB_u64 (s g : Int) : U64 (mkB s g) := mixF_u64 _ _
theorem padF_u64 (s g n i : Int) : U64 (padF s g n i) := mixF_u64 _ _
theorem jtag_u64 (s g : Int) (l : List Int) : U64 (jtag s g l) := mixF_u64 _ _
/-- a generation -/
def Gn (g : Int) : Prop := 0 ≤ g ∧ g ≤ 2147483647
set_option maxHeartbeats 4000000 in
theorem rderive_any (k0 k1 : Int) (A : Option Addr) (n c : Nat) (l : List Int) (w : World) (hk0 : U64 k0) (hk1 : U64 k1) (hn : l.length = n) (h : Bs w 0 w.heap.size A l) (hm : n ≤ 1000000) (hnc : n ≤ c) (hcc : c ≤ 9223372036854775807) :
    Calls Tryd.prog 83 #[keyV k0 k1, .slice A n c] w fun e w' => e = .returned (keyV (mixF (tagF k0 k1 l) 1) (mixF (tagF k0 k1 l) 2)) ∧ Below w.heap.size w w' := by
  have hu := tagF_u64 k0 k1 l
  have hT := fun W hB => rtag_any k0 k1 A n c l W hk0 hk1 hn hB hm hnc hcc
  generalize tagF k0 k1 l = t at hu hT ⊢
  have hM1 := fun W => rmix_any t 1 W hu ⟨by omega, by omega⟩
  have hM2 := fun W => rmix_any t 2 W hu ⟨by omega, by omega⟩
  generalize mixF t 1 = m1 at hM1 ⊢
  generalize mixF t 2 = m2 at hM2 ⊢
  clear hk0 hk1 hn hm hnc hcc hu
  go_enter Tryd.func83, Tryd.ntmps83
  go_wp2_with (first
    | (refine wpl_box (by rfl) 29 _ (by rfl) _ (keyL k0 k1) (by rfl) rfl ?_; intro w1 J1 s1 b1)
    | (refine wpl_alloc (by rfl) 29 (by rfl) (keyV 0 0) (keyL 0 0) zeroKey rfl ?_; intro w2 R2 s2 b2; (have J2 := J1.below b2 (by omega)))
    | (refine wpl_load (by rfl) 29 _ (by rfl) w.heap.size (by rfl) 29 _ J2 _ Tryd.underlying29 rfl _ sizeKey (by rfl) ?_)
    | (go_at_call 69; ((with_reducible refine (hT _ (((h.below b1 (Nat.le_refl _)).below b2 (by omega)).wide (Nat.le_refl _) (by omega))).mono ?_); rintro e w3 ⟨rfl, b3⟩; (have R3 := R2.below b3 (by omega))))
    | (go_at_call 85; ((with_reducible refine (hM1 _).mono ?_); rintro e w' ⟨rfl, rfl⟩))
    | (go_at_call 85; ((with_reducible refine (hM2 _).mono ?_); rintro e w' ⟨rfl, rfl⟩))
    | (refine wpl_store (by rfl) 29 _ _ (by rfl) w1.heap.size (by rfl) _ (by rfl) (keyL m1 m2) rfl 29 _ R3 (show (2 : Nat) = 2 from rfl) _ sizeKey (by rfl) (by simp [Value.oneCell']) ?_; intro w4 R4 s4 g4))
  refine bodyPost_ret (res_c Tryd.results83 (by rfl) R4 Tryd.underlying29 rfl sizeKey (by rfl)) rfl ?_
  exact ⟨rfl, ((b1.trans (b2.mono (by omega))).trans (b3.mono (by omega))).trans (g4.below (by have := b3.size; omega) (by omega))⟩
set_option maxHeartbeats 4000000 in
theorem derive_any (k0 k1 : Int) (A : Option Addr) (n c : Nat) (l : List Int) (w : World) (hk0 : U64 k0) (hk1 : U64 k1) (hn : l.length = n) (h : Bs w 0 w.heap.size A l) (hm : n ≤ 1000000) (hnc : n ≤ c) (hcc : c ≤ 9223372036854775807) (hR : Rnd w) :
    Calls Tryd.prog 79 #[keyV k0 k1, .slice A n c] w fun e w' => e = .returned (keyV (mixF (tagF k0 k1 l) 1) (mixF (tagF k0 k1 l) 2)) ∧ Below w.heap.size w w' := by
  have hw0 := hR.lt
  have hu := tagF_u64 k0 k1 l
  have hT := fun W hB hr => tag_any k0 k1 A n c l W hk0 hk1 hn hB hm hnc hcc hr
  generalize tagF k0 k1 l = t at hu hT ⊢
  have hM1 := fun W hr => mix_any t 1 W hu ⟨by omega, by omega⟩ hr
  have hM2 := fun W hr => mix_any t 2 W hu ⟨by omega, by omega⟩ hr
  generalize mixF t 1 = m1 at hM1 ⊢
  generalize mixF t 2 = m2 at hM2 ⊢
  clear hk0 hk1 hn hm hnc hcc hu
  go_enter Tryd.func79, Tryd.ntmps79
  go_wp2_with (first
    | ((refine wpl_box (by rfl) 29 _ (by rfl) _ (keyL k0 k1) (by rfl) rfl ?_; intro w1 J1 s1 b1); (have R1 := hR.below b1 hw0))
    | (refine wpl_alloc (by rfl) 29 (by rfl) (keyV 0 0) (keyL 0 0) zeroKey rfl ?_; intro w2 X2 s2 b2; (have J2 := J1.below b2 (by omega)); (have R2 := R1.below b2 R1.lt))
    | (refine wpl_load (by rfl) 29 _ (by rfl) w.heap.size (by rfl) 29 _ J2 _ Tryd.underlying29 rfl _ sizeKey (by rfl) ?_)
    | (go_at_call 74; ((with_reducible refine (hT _ (((h.below b1 (Nat.le_refl _)).below b2 (by omega)).wide (Nat.le_refl _) (by omega)) R2).mono ?_); rintro e w3 ⟨rfl, b3⟩; (have X3 := X2.below b3 (by omega)); (have R3 := R2.below b3 R2.lt); (have z3 := b3.size)))
    | (go_at_call 81; ((with_reducible refine (hM1 _ R3).mono ?_); rintro e w4 ⟨rfl, b4⟩; (have X4 := X3.below b4 (by omega)); (have R4 := R3.below b4 R3.lt); (have z4 := b4.size)))
    | (go_at_call 81; ((with_reducible refine (hM2 _ R4).mono ?_); rintro e w5 ⟨rfl, b5⟩; (have X5 := X4.below b5 (by omega)); (have z5 := b5.size)))
    | (refine wpl_store (by rfl) 29 _ _ (by rfl) w1.heap.size (by rfl) _ (by rfl) (keyL m1 m2) rfl 29 _ X5 (show (2 : Nat) = 2 from rfl) _ sizeKey (by rfl) (by simp [Value.oneCell']) ?_; intro w6 X6 s6 g6))
  refine bodyPost_ret (res_c Tryd.results79 (by rfl) X6 Tryd.underlying29 rfl sizeKey (by rfl)) rfl ?_
  exact ⟨rfl, ((((b1.trans (b2.mono (by omega))).trans (b3.mono (by omega))).trans (b4.mono (by omega))).trans (b5.mono (by omega))).trans (g6.below (by omega) (by omega))⟩
/-- a jar of the reference -/
abbrev jarL (s k g : Int) : List Value := [.int .u64 s, .int .i64 k, .int .i64 g]
theorem sizeJarR : (Tryd.prog.info? 89).map (·.size) = some 3 := by kernel_rfl
theorem two_u64 {g : Int} (h : Gn g) : IntKind.u64.wrap (2 * g) = 2 * g ∧ IntKind.u64.wrap (2 * g + 1) = 2 * g + 1 ∧ IntKind.i64.wrap (2 * g) = 2 * g ∧ IntKind.i64.wrap (2 * g + 1) = 2 * g + 1 ∧ IntKind.u64.wrap g = g := by
  obtain ⟨h0, h1⟩ := h
  refine ⟨?_, ?_, ?_, ?_, ?_⟩
  · rw [IntKind.wrap_u64]; omega
  · rw [IntKind.wrap_u64]; omega
  · rw [IntKind.wrap_i64]; omega
  · rw [IntKind.wrap_i64]; omega
  · rw [IntKind.wrap_u64]; omega
set_option maxHeartbeats 4000000 in
theorem rmaster_any (bj : Nat) (s k g gg : Int) (w : World) (hs : U64 s) (hg : Gn g) (hJ : Blk w bj 89 (jarL s k gg)) :
    Calls Tryd.prog 84 #[.pointer (some ⟨bj, 0, none⟩), .int .i64 g] w fun e w' => e = .returned (keyV (mkA s g) (mkB s g)) ∧ Below w.heap.size w w' := by
  have hlt := hJ.lt
  obtain ⟨e1, e2, e3, e4, e5⟩ := two_u64 hg
  have hM1 := fun W => rmix_any s (2 * g) W hs (by obtain ⟨h0, h1⟩ := hg; exact ⟨by omega, by omega⟩)
  have hM2 := fun W => rmix_any s (2 * g + 1) W hs (by obtain ⟨h0, h1⟩ := hg; exact ⟨by omega, by omega⟩)
  clear hs hg
  have hA : mixF s (2 * g) = mkA s g := rfl
  have hB : mixF s (2 * g + 1) = mkB s g := rfl
  rw [hA] at hM1
  rw [hB] at hM2
  generalize mkA s g = m1 at hM1 ⊢
  generalize mkB s g = m2 at hM2 ⊢
  clear hA hB
  go_enter Tryd.func84, Tryd.ntmps84
  go_wp2_with (first
    | (refine wpl_alloc (by rfl) 29 (by rfl) (keyV 0 0) (keyL 0 0) zeroKey rfl ?_; intro w1 X1 s1 b1; (have J1 := hJ.below b1 hlt)))
  have q0 := J1.drew.cell (i := 0) rfl
  refine wp_region_heldL (fun w' => w'.cell? ⟨bj, 0, none⟩ = some (.int .u64 s)) 19 (by kernel_rfl) rfl q0 fun hHeld => ?_
  simp only [List.replicate]
  (refine wpH_take (i := 0) (v := _) (by simp only [List.getElem?_toArray, List.getElem?_cons_succ, List.getElem?_cons_zero]; rfl) (by kernel_rfl) (by kernel_rfl) (by kernel_rfl) (by intro _ _ _ h; exact h) (Or.inl ⟨by rfl, (by intro w' hSw; (try dsimp only at hSw); go_simp; first | done | with_reducible rfl)⟩) (by assumption) ?_; (try simp only [Act.put, List.setIfInBounds_toArray, List.set_cons_zero, List.set_cons_succ]))
  (refine wpH_take (i := 1) (v := _) (by simp only [List.getElem?_toArray, List.getElem?_cons_succ, List.getElem?_cons_zero]; rfl) (by kernel_rfl) (by kernel_rfl) (by kernel_rfl) (by intro _ _ _ h; exact h) (Or.inl ⟨by rfl, (by intro w' hSw; (try dsimp only at hSw); go_simp; first | done | with_reducible rfl)⟩) (by assumption) ?_; (try simp only [Act.put, List.setIfInBounds_toArray, List.set_cons_zero, List.set_cons_succ]))
  (refine wpH_take (i := 2) (v := _) (by simp only [List.getElem?_toArray, List.getElem?_cons_succ, List.getElem?_cons_zero]; rfl) (by kernel_rfl) (by kernel_rfl) (by kernel_rfl) (by intro _ _ _ h; exact h) (Or.inl ⟨by rfl, (by intro w' hSw; (try dsimp only at hSw); go_simp; first | done | with_reducible rfl)⟩) (by assumption) ?_; (try simp only [Act.put, List.setIfInBounds_toArray, List.set_cons_zero, List.set_cons_succ]))
  (refine wpH_take (i := 3) (v := _) (by simp only [List.getElem?_toArray, List.getElem?_cons_succ, List.getElem?_cons_zero]; rfl) (by kernel_rfl) (by kernel_rfl) (by kernel_rfl) (by intro _ _ _ h; exact h) (Or.inl ⟨by rfl, (by intro w' hSw; (try dsimp only at hSw); go_simp; first | done | with_reducible rfl)⟩) (by assumption) ?_; (try simp only [Act.put, List.setIfInBounds_toArray, List.set_cons_zero, List.set_cons_succ]))
  (refine wpH_take (i := 4) (v := _) (by simp only [List.getElem?_toArray, List.getElem?_cons_succ, List.getElem?_cons_zero]; rfl) (by kernel_rfl) (by kernel_rfl) (by kernel_rfl) (by intro _ _ _ h; exact h) (Or.inl ⟨by rfl, (by intro w' hSw; (try dsimp only at hSw); go_simp; first | done | with_reducible rfl)⟩) (by assumption) ?_; (try simp only [Act.put, List.setIfInBounds_toArray, List.set_cons_zero, List.set_cons_succ]))
  (refine wpH_take (i := 5) (v := _) (by simp only [List.getElem?_toArray, List.getElem?_cons_succ, List.getElem?_cons_zero]; rfl) (by kernel_rfl) (by kernel_rfl) (by kernel_rfl) (by intro _ _ _ h; exact h) (Or.inl ⟨by rfl, (by intro w' hSw; (try dsimp only at hSw); go_simp; first | done | with_reducible rfl)⟩) (by assumption) ?_; (try simp only [Act.put, List.setIfInBounds_toArray, List.set_cons_zero, List.set_cons_succ]))
  (refine wpH_take (i := 6) (v := _) (by simp only [List.getElem?_toArray, List.getElem?_cons_succ, List.getElem?_cons_zero]; rfl) (by kernel_rfl) (by kernel_rfl) (by kernel_rfl) (by intro _ _ _ h; exact h) (Or.inl ⟨by rfl, (by intro w' hSw; (try dsimp only at hSw); go_simp; first | done | with_reducible rfl)⟩) (by assumption) ?_; (try simp only [Act.put, List.setIfInBounds_toArray, List.set_cons_zero, List.set_cons_succ]))
  (refine wpH_take (i := 8) (v := _) (by simp only [List.getElem?_toArray, List.getElem?_cons_succ, List.getElem?_cons_zero]; rfl) (by kernel_rfl) (by kernel_rfl) (by kernel_rfl) (by intro _ _ _ h; exact h) (Or.inl ⟨by rfl, (by intro w' hSw; (try dsimp only at hSw); go_simp; first | done | with_reducible rfl)⟩) (by assumption) ?_; (try simp only [Act.put, List.setIfInBounds_toArray, List.set_cons_zero, List.set_cons_succ]))
  (refine wpH_take (i := 9) (v := _) (by simp only [List.getElem?_toArray, List.getElem?_cons_succ, List.getElem?_cons_zero]; rfl) (by kernel_rfl) (by kernel_rfl) (by kernel_rfl) (by intro _ _ _ h; exact h) (Or.inl ⟨by rfl, (by intro w' hSw; (try dsimp only at hSw); go_simp; first | done | with_reducible rfl)⟩) (by assumption) ?_; (try simp only [Act.put, List.setIfInBounds_toArray, List.set_cons_zero, List.set_cons_succ]))
  (refine wpH_take (i := 10) (v := _) (by simp only [List.getElem?_toArray, List.getElem?_cons_succ, List.getElem?_cons_zero]; rfl) (by kernel_rfl) (by kernel_rfl) (by kernel_rfl) (by intro _ _ _ h; exact h) (Or.inl ⟨by rfl, (by intro w' hSw; (try dsimp only at hSw); go_simp; first | done | with_reducible rfl)⟩) (by assumption) ?_; (try simp only [Act.put, List.setIfInBounds_toArray, List.set_cons_zero, List.set_cons_succ]))
  (refine wpH_take (i := 11) (v := _) (by simp only [List.getElem?_toArray, List.getElem?_cons_succ, List.getElem?_cons_zero]; rfl) (by kernel_rfl) (by kernel_rfl) (by kernel_rfl) (by intro _ _ _ h; exact h) (Or.inl ⟨by rfl, (by intro w' hSw; (try dsimp only at hSw); go_simp; first | done | with_reducible rfl)⟩) (by assumption) ?_; (try simp only [Act.put, List.setIfInBounds_toArray, List.set_cons_zero, List.set_cons_succ]))
  (refine wpH_take (i := 12) (v := _) (by simp only [List.getElem?_toArray, List.getElem?_cons_succ, List.getElem?_cons_zero]; rfl) (by kernel_rfl) (by kernel_rfl) (by kernel_rfl) (by intro _ _ _ h; exact h) (Or.inl ⟨by rfl, (by intro w' hSw; (try dsimp only at hSw); go_simp; first | done | with_reducible rfl)⟩) (by assumption) ?_; (try simp only [Act.put, List.setIfInBounds_toArray, List.set_cons_zero, List.set_cons_succ]))
  (refine wpH_take (i := 13) (v := _) (by simp only [List.getElem?_toArray, List.getElem?_cons_succ, List.getElem?_cons_zero]; rfl) (by kernel_rfl) (by kernel_rfl) (by kernel_rfl) (by intro _ _ _ h; exact h) (Or.inl ⟨by rfl, (by intro w' hSw; (try dsimp only at hSw); go_simp; first | done | with_reducible rfl)⟩) (by assumption) ?_; (try simp only [Act.put, List.setIfInBounds_toArray, List.set_cons_zero, List.set_cons_succ]))
  (refine wpH_take (i := 14) (v := _) (by simp only [List.getElem?_toArray, List.getElem?_cons_succ, List.getElem?_cons_zero]; rfl) (by kernel_rfl) (by kernel_rfl) (by kernel_rfl) (by intro _ _ _ h; exact h) (Or.inl ⟨by rfl, (by intro w' hSw; (try dsimp only at hSw); go_simp; first | done | with_reducible rfl)⟩) (by assumption) ?_; (try simp only [Act.put, List.setIfInBounds_toArray, List.set_cons_zero, List.set_cons_succ]))
  (refine wpH_take (i := 15) (v := _) (by simp only [List.getElem?_toArray, List.getElem?_cons_succ, List.getElem?_cons_zero]; rfl) (by kernel_rfl) (by kernel_rfl) (by kernel_rfl) (by intro _ _ _ h; exact h) (Or.inl ⟨by rfl, (by intro w' hSw; (try dsimp only at hSw); go_simp; first | done | with_reducible rfl)⟩) (by assumption) ?_; (try simp only [Act.put, List.setIfInBounds_toArray, List.set_cons_zero, List.set_cons_succ]))
  (refine wpH_one (i := 7) (by simp only [List.getElem?_toArray, List.getElem?_cons_succ, List.getElem?_cons_zero]; rfl) (by kernel_rfl) (by rfl) ?_; (go_simp; (with_reducible refine (hM1 _).mono ?_); rintro e w' ⟨rfl, rfl⟩; refine ⟨q0, ?_⟩); (try simp only [Act.put, List.setIfInBounds_toArray, List.set_cons_zero, List.set_cons_succ]))
  (refine wpH_one (i := 16) (by simp only [List.getElem?_toArray, List.getElem?_cons_succ, List.getElem?_cons_zero]; rfl) (by kernel_rfl) (by rfl) ?_; (go_simp; (with_reducible refine (hM2 _).mono ?_); rintro e w' ⟨rfl, rfl⟩; refine ⟨q0, ?_⟩); (try simp only [Act.put, List.setIfInBounds_toArray, List.set_cons_zero, List.set_cons_succ]))
  (refine wpH_take (i := 17) (v := _) (by simp only [List.getElem?_toArray, List.getElem?_cons_succ, List.getElem?_cons_zero]; rfl) (by kernel_rfl) (by kernel_rfl) (by kernel_rfl) (by intro _ _ _ h; exact h) (Or.inl ⟨by rfl, (by intro w' hSw; (try dsimp only at hSw); go_simp; first | done | with_reducible rfl)⟩) (by assumption) ?_; (try simp only [Act.put, List.setIfInBounds_toArray, List.set_cons_zero, List.set_cons_succ]))
  (refine wpH_one (i := 18) (by simp only [List.getElem?_toArray, List.getElem?_cons_succ, List.getElem?_cons_zero]; rfl) (by kernel_rfl) (by rfl) ?_; (refine wp_store_mid 29 (.tmp 4) (.tmp 22) (by rfl) w.heap.size 0 (keyL m1 m2).toArray (by rfl) (by rfl) (show World.there _ _ 0 2 from X1.drew.there) sizeKey (all_oneCell_toArray (by simp [Value.oneCell'])) ?_; refine ⟨(Blk.but J1.drew (but_setCells _ _ _ (World.grownBy.refl _ _)) (by omega)).cell rfl, ?_⟩); (try simp only [Act.put, List.setIfInBounds_toArray, List.set_cons_zero, List.set_cons_succ]))
  refine wpH_done (by kernel_rfl) ?_ _
  have X2 : Blk (w1.drew.setCells w.heap.size 0 (keyL m1 m2)) w.heap.size 29 (keyL m1 m2) := X1.drew.stored (keyL m1 m2) (show (2 : Nat) = 2 from rfl)
  have G2 : But w.heap.size w1.drew (w1.drew.setCells w.heap.size 0 (keyL m1 m2)) := but_setCells _ _ _ (World.grownBy.refl _ _)
  go_wp2_with fail
  refine bodyPost_ret (res_c Tryd.results84 (by rfl) X2 Tryd.underlying29 rfl sizeKey (show (2 : Nat) = 2 from rfl)) rfl ?_
  exact ⟨rfl, b1.drew.trans (G2.below (by show _ ≤ w1.heap.size; omega) (Nat.le_refl _))⟩
end Go.Proofs.YtachhbbofemfdaaDoor
namespace Go.Proofs.YtachhbbofemfdaaDoor
open Go.RowKit
set_option linter.unusedSimpArgs false
set_option linter.unusedVariables false
set_option maxRecDepth 100000
theorem Rnd.drew {w : World} (h : Rnd w) : Rnd w.drew := h
theorem Rnd.alloc {w : World} (h : Rnd w) (o : Obj) : Rnd (w.alloc o) := by obtain ⟨t, h⟩ := h; exact ⟨t, Blk.old h⟩
theorem sizeJar : (Tryd.prog.info? 84).map (·.size) = some 3 := by kernel_rfl
set_option maxHeartbeats 4000000 in
theorem master_any (bj : Nat) (s k g gg : Int) (w : World) (hs : U64 s) (hg : Gn g) (hJ : Blk w bj 84 (jarL s k gg)) (hR : Rnd w) :
    Calls Tryd.prog 80 #[.pointer (some ⟨bj, 0, none⟩), .int .i64 g] w fun e w' => e = .returned (keyV (mkA s g) (mkB s g)) ∧ Below w.heap.size w w' := by
  have hlt := hJ.lt
  have hw0 := hR.lt
  obtain ⟨e1, e2, e3, e4, e5⟩ := two_u64 hg
  have hM1 := fun W hr => mix_any s (2 * g) W hs (by obtain ⟨h0, h1⟩ := hg; exact ⟨by omega, by omega⟩) hr
  have hM2 := fun W hr => mix_any s (2 * g + 1) W hs (by obtain ⟨h0, h1⟩ := hg; exact ⟨by omega, by omega⟩) hr
  clear hs hg
  have hA : mixF s (2 * g) = mkA s g := rfl
  have hB : mixF s (2 * g + 1) = mkB s g := rfl
  rw [hA] at hM1
  rw [hB] at hM2
  generalize mkA s g = m1 at hM1 ⊢
  generalize mkB s g = m2 at hM2 ⊢
  clear hA hB
  go_enter Tryd.func80, Tryd.ntmps80
  go_wp2_with (first
    | (refine wpl_alloc (by rfl) 29 (by rfl) (keyV 0 0) (keyL 0 0) zeroKey rfl ?_; intro w1 X1 s1 b1; (have J1 := hJ.below b1 hlt)))
  have R1 := hR.below b1 hw0
  have hz1 : 0 < w1.heap.size := by omega
  have hb1 : bj < w1.heap.size := by omega
  have q0 := J1.drew.cell (i := 0) rfl
  refine wp_region_heldL (fun w' => w'.cell? ⟨bj, 0, none⟩ = some (.int .u64 s)) 17 (by kernel_rfl) rfl q0 fun hHeld => ?_
  simp only [List.replicate]
  (refine wpH_take (i := 0) (v := _) (by simp only [List.getElem?_toArray, List.getElem?_cons_succ, List.getElem?_cons_zero]; rfl) (by kernel_rfl) (by kernel_rfl) (by kernel_rfl) (by intro _ _ _ h; exact h) (Or.inl ⟨by rfl, (by intro w' hSw; (try dsimp only at hSw); go_simp; first | done | with_reducible rfl)⟩) (by assumption) ?_; (try simp only [Act.put, List.setIfInBounds_toArray, List.set_cons_zero, List.set_cons_succ]))
  (refine wpH_take (i := 1) (v := _) (by simp only [List.getElem?_toArray, List.getElem?_cons_succ, List.getElem?_cons_zero]; rfl) (by kernel_rfl) (by kernel_rfl) (by kernel_rfl) (by intro _ _ _ h; exact h) (Or.inl ⟨by rfl, (by intro w' hSw; (try dsimp only at hSw); go_simp; first | done | with_reducible rfl)⟩) (by assumption) ?_; (try simp only [Act.put, List.setIfInBounds_toArray, List.set_cons_zero, List.set_cons_succ]))
  (refine wpH_take (i := 2) (v := _) (by simp only [List.getElem?_toArray, List.getElem?_cons_succ, List.getElem?_cons_zero]; rfl) (by kernel_rfl) (by kernel_rfl) (by kernel_rfl) (by intro _ _ _ h; exact h) (Or.inl ⟨by rfl, (by intro w' hSw; (try dsimp only at hSw); go_simp; first | done | with_reducible rfl)⟩) (by assumption) ?_; (try simp only [Act.put, List.setIfInBounds_toArray, List.set_cons_zero, List.set_cons_succ]))
  (refine wpH_take (i := 3) (v := _) (by simp only [List.getElem?_toArray, List.getElem?_cons_succ, List.getElem?_cons_zero]; rfl) (by kernel_rfl) (by kernel_rfl) (by kernel_rfl) (by intro _ _ _ h; exact h) (Or.inl ⟨by rfl, (by intro w' hSw; (try dsimp only at hSw); go_simp; first | done | with_reducible rfl)⟩) (by assumption) ?_; (try simp only [Act.put, List.setIfInBounds_toArray, List.set_cons_zero, List.set_cons_succ]))
  (refine wpH_take (i := 4) (v := _) (by simp only [List.getElem?_toArray, List.getElem?_cons_succ, List.getElem?_cons_zero]; rfl) (by kernel_rfl) (by kernel_rfl) (by kernel_rfl) (by intro _ _ _ h; exact h) (Or.inl ⟨by rfl, (by intro w' hSw; (try dsimp only at hSw); go_simp; first | done | with_reducible rfl)⟩) (by assumption) ?_; (try simp only [Act.put, List.setIfInBounds_toArray, List.set_cons_zero, List.set_cons_succ]))
  (refine wpH_take (i := 5) (v := _) (by simp only [List.getElem?_toArray, List.getElem?_cons_succ, List.getElem?_cons_zero]; rfl) (by kernel_rfl) (by kernel_rfl) (by kernel_rfl) (by intro _ _ _ h; exact h) (Or.inl ⟨by rfl, (by intro w' hSw; (try dsimp only at hSw); go_simp; first | done | with_reducible rfl)⟩) (by assumption) ?_; (try simp only [Act.put, List.setIfInBounds_toArray, List.set_cons_zero, List.set_cons_succ]))
  (refine wpH_take (i := 7) (v := _) (by simp only [List.getElem?_toArray, List.getElem?_cons_succ, List.getElem?_cons_zero]; rfl) (by kernel_rfl) (by kernel_rfl) (by kernel_rfl) (by intro _ _ _ h; exact h) (Or.inl ⟨by rfl, (by intro w' hSw; (try dsimp only at hSw); go_simp; first | done | with_reducible rfl)⟩) (by assumption) ?_; (try simp only [Act.put, List.setIfInBounds_toArray, List.set_cons_zero, List.set_cons_succ]))
  (refine wpH_take (i := 8) (v := _) (by simp only [List.getElem?_toArray, List.getElem?_cons_succ, List.getElem?_cons_zero]; rfl) (by kernel_rfl) (by kernel_rfl) (by kernel_rfl) (by intro _ _ _ h; exact h) (Or.inl ⟨by rfl, (by intro w' hSw; (try dsimp only at hSw); go_simp; first | done | with_reducible rfl)⟩) (by assumption) ?_; (try simp only [Act.put, List.setIfInBounds_toArray, List.set_cons_zero, List.set_cons_succ]))
  (refine wpH_take (i := 9) (v := _) (by simp only [List.getElem?_toArray, List.getElem?_cons_succ, List.getElem?_cons_zero]; rfl) (by kernel_rfl) (by kernel_rfl) (by kernel_rfl) (by intro _ _ _ h; exact h) (Or.inl ⟨by rfl, (by intro w' hSw; (try dsimp only at hSw); go_simp; first | done | with_reducible rfl)⟩) (by assumption) ?_; (try simp only [Act.put, List.setIfInBounds_toArray, List.set_cons_zero, List.set_cons_succ]))
  (refine wpH_take (i := 10) (v := _) (by simp only [List.getElem?_toArray, List.getElem?_cons_succ, List.getElem?_cons_zero]; rfl) (by kernel_rfl) (by kernel_rfl) (by kernel_rfl) (by intro _ _ _ h; exact h) (Or.inl ⟨by rfl, (by intro w' hSw; (try dsimp only at hSw); go_simp; first | done | with_reducible rfl)⟩) (by assumption) ?_; (try simp only [Act.put, List.setIfInBounds_toArray, List.set_cons_zero, List.set_cons_succ]))
  (refine wpH_take (i := 11) (v := _) (by simp only [List.getElem?_toArray, List.getElem?_cons_succ, List.getElem?_cons_zero]; rfl) (by kernel_rfl) (by kernel_rfl) (by kernel_rfl) (by intro _ _ _ h; exact h) (Or.inl ⟨by rfl, (by intro w' hSw; (try dsimp only at hSw); go_simp; first | done | with_reducible rfl)⟩) (by assumption) ?_; (try simp only [Act.put, List.setIfInBounds_toArray, List.set_cons_zero, List.set_cons_succ]))
  (refine wpH_take (i := 12) (v := _) (by simp only [List.getElem?_toArray, List.getElem?_cons_succ, List.getElem?_cons_zero]; rfl) (by kernel_rfl) (by kernel_rfl) (by kernel_rfl) (by intro _ _ _ h; exact h) (Or.inl ⟨by rfl, (by intro w' hSw; (try dsimp only at hSw); go_simp; first | done | with_reducible rfl)⟩) (by assumption) ?_; (try simp only [Act.put, List.setIfInBounds_toArray, List.set_cons_zero, List.set_cons_succ]))
  (refine wpH_take (i := 13) (v := _) (by simp only [List.getElem?_toArray, List.getElem?_cons_succ, List.getElem?_cons_zero]; rfl) (by kernel_rfl) (by kernel_rfl) (by kernel_rfl) (by intro _ _ _ h; exact h) (Or.inl ⟨by rfl, (by intro w' hSw; (try dsimp only at hSw); go_simp; first | done | with_reducible rfl)⟩) (by assumption) ?_; (try simp only [Act.put, List.setIfInBounds_toArray, List.set_cons_zero, List.set_cons_succ]))
  (refine wpH_one (i := 6) (by simp only [List.getElem?_toArray, List.getElem?_cons_succ, List.getElem?_cons_zero]; rfl) (by kernel_rfl) (by rfl) ?_; (go_simp; (with_reducible refine (hM1 w1.drew R1.drew).mono ?_); rintro e w2 ⟨rfl, b2⟩; refine ⟨(J1.drew.below b2 hb1).cell rfl, ?_⟩); (try simp only [Act.put, List.setIfInBounds_toArray, List.set_cons_zero, List.set_cons_succ]))
  have J2 := J1.drew.below b2 hb1
  have X2 := X1.drew.below b2 s1
  have R2 : Rnd w2 := R1.drew.below b2 hz1
  have z2 : w1.heap.size ≤ w2.heap.size := b2.size
  (refine wpH_one (i := 14) (by simp only [List.getElem?_toArray, List.getElem?_cons_succ, List.getElem?_cons_zero]; rfl) (by kernel_rfl) (by rfl) ?_; (go_simp; (with_reducible refine (hM2 w2 R2).mono ?_); rintro e w3 ⟨rfl, b3⟩; refine ⟨(J2.below b3 (by omega)).cell rfl, ?_⟩); (try simp only [Act.put, List.setIfInBounds_toArray, List.set_cons_zero, List.set_cons_succ]))
  have J3 := J2.below b3 (by omega)
  have X3 := X2.below b3 (by omega)
  have z3 := b3.size
  have hHeld3 := J3.cell (i := 0) rfl
  (refine wpH_take (i := 15) (v := _) (by simp only [List.getElem?_toArray, List.getElem?_cons_succ, List.getElem?_cons_zero]; rfl) (by kernel_rfl) (by kernel_rfl) (by kernel_rfl) (by intro _ _ _ h; exact h) (Or.inl ⟨by rfl, (by intro w' hSw; (try dsimp only at hSw); go_simp; first | done | with_reducible rfl)⟩) (by assumption) ?_; (try simp only [Act.put, List.setIfInBounds_toArray, List.set_cons_zero, List.set_cons_succ]))
  (refine wpH_one (i := 16) (by simp only [List.getElem?_toArray, List.getElem?_cons_succ, List.getElem?_cons_zero]; rfl) (by kernel_rfl) (by rfl) ?_; (refine wp_store_mid 29 (.tmp 4) (.tmp 23) (by rfl) w.heap.size 0 (keyL m1 m2).toArray (by rfl) (by rfl) (show World.there _ _ 0 2 from X3.there) sizeKey (all_oneCell_toArray (by simp [Value.oneCell'])) ?_; refine ⟨(Blk.but J3 (but_setCells _ _ _ (World.grownBy.refl _ _)) (by omega)).cell rfl, ?_⟩); (try simp only [Act.put, List.setIfInBounds_toArray, List.set_cons_zero, List.set_cons_succ]))
  refine wpH_done (by kernel_rfl) ?_ _
  have X4 : Blk (w3.setCells w.heap.size 0 (keyL m1 m2)) w.heap.size 29 (keyL m1 m2) := X3.stored (keyL m1 m2) (show (2 : Nat) = 2 from rfl)
  have G4 : But w.heap.size w3 (w3.setCells w.heap.size 0 (keyL m1 m2)) := but_setCells _ _ _ (World.grownBy.refl _ _)
  go_wp2_with fail
  refine bodyPost_ret (res_c Tryd.results80 (by rfl) X4 Tryd.underlying29 rfl sizeKey (show (2 : Nat) = 2 from rfl)) rfl ?_
  exact ⟨rfl, ((b1.drew.trans (b2.mono (by show _ ≤ w1.heap.size; omega))).trans (b3.mono (by omega))).trans (G4.below (by omega) (Nat.le_refl _))⟩
theorem conv_bs (x y z : Int) (W : World) : (convert 23 23 (.slice (some ⟨W.heap.size, 0, none⟩) 3 3)).run Tryd.prog (W.alloc (.cells #[.int .u8 x, .int .u8 y, .int .u8 z] 5)) = .ok (.slice (some ⟨W.heap.size, 0, none⟩) 3 3) (W.alloc (.cells #[.int .u8 x, .int .u8 y, .int .u8 z] 5 (3, 4))) :=
  Lib.run_convert_bytes_const W 23 5 #[.int .u8 x, .int .u8 y, .int .u8 z] 3 3 Tryd.underlying23 Tryd.underlying5
theorem bytPad : Byt padL := by decide
theorem bytLab : Byt labL := by decide
theorem bs3 {w : World} {x y z : Int} (h : Byt [x, y, z]) : Bs (w.alloc (.cells #[.int .u8 x, .int .u8 y, .int .u8 z] 5 (3, 4))) 0 (w.alloc (.cells #[.int .u8 x, .int .u8 y, .int .u8 z] 5 (3, 4))).heap.size (some ⟨w.heap.size, 0, none⟩) [x, y, z] := by
  have hB := heap_alloc_new w (.cells #[.int .u8 x, .int .u8 y, .int .u8 z] 5 (3, 4))
  refine ⟨h, fun _ => ⟨w.heap.size, 0, rfl, Nat.zero_le _, by simp, fun k hk => ?_⟩⟩
  rw [Nat.zero_add, cell_of_row _ _ k _ _ _ hB]
  have hk' : k = 0 ∨ k = 1 ∨ k = 2 := by simp at hk; omega
  rcases hk' with rfl | rfl | rfl <;> rfl
set_option maxHeartbeats 4000000 in
theorem jtag_any (bj : Nat) (s k g gg : Int) (A : Option Addr) (n c : Nat) (l : List Int) (w : World) (hs : U64 s) (hg : Gn g) (hJ : Blk w bj 84 (jarL s k gg)) (hR : Rnd w) (hn : l.length = n) (h : Bs w 0 w.heap.size A l) (hm : n ≤ 1000000) (hnc : n ≤ c) (hcc : c ≤ 9223372036854775807) :
    Calls Tryd.prog 47 #[.pointer (some ⟨bj, 0, none⟩), .slice A n c, .int .i64 g] w fun e w' => e = .returned (.int .u64 (jtag s g l)) ∧ Below w.heap.size w w' := by
  have hM := master_any bj s k g gg w hs hg hJ hR
  have hw0 := hR.lt
  clear hJ
  have hk1 := mkA_u64 s g
  have hk2 := mkB_u64 s g
  have hE : jtag s g l = tagF (mixF (tagF (mkA s g) (mkB s g) labL) 1) (mixF (tagF (mkA s g) (mkB s g) labL) 2) l := rfl
  rw [hE]
  clear hE
  generalize mkA s g = m1 at hM hk1 ⊢
  generalize mkB s g = m2 at hM hk2 ⊢
  have hD := fun W A n c l hn hB hr hm hnc hcc => derive_any m1 m2 A n c l W hk1 hk2 hn hB hm hnc hcc hr
  have hD' := fun W A hB hr => hD W A 3 3 labL rfl hB hr (by omega) (by omega) (by omega)
  have hu1 : U64 (mixF (tagF m1 m2 labL) 1) := mixF_u64 _ _
  have hu2 : U64 (mixF (tagF m1 m2 labL) 2) := mixF_u64 _ _
  generalize mixF (tagF m1 m2 labL) 1 = d1 at hD' hu1 ⊢
  generalize mixF (tagF m1 m2 labL) 2 = d2 at hD' hu2 ⊢
  have hT := fun W hB hr => tag_any d1 d2 A n c l W hu1 hu2 hn hB hm hnc hcc hr
  generalize tagF d1 d2 l = t at hT ⊢
  clear hD hu1 hu2
  go_enter Tryd.func47, Tryd.ntmps47
  go_wp2_with fail
  with_reducible refine hM.mono ?_
  rintro e w1 ⟨rfl, b1⟩
  have R1 := hR.below b1 hw0
  have z1 := b1.size
  have h1 := h.below b1 (Nat.le_refl _)
  have hE := hD' _ _ (bs3 (w := w1) bytLab) (R1.alloc _)
  have hcv := conv_bs 116 97 103
  clear hD' hM
  go_wp2_with fail
  with_reducible refine hE.mono ?_
  rintro e w2 ⟨rfl, b2⟩
  have B2 := (b1.alloc b1.size _).trans (b2.mono (by simp; omega))
  have R2 := (R1.alloc (.cells #[.int .u8 116, .int .u8 97, .int .u8 103] 5 (3, 4))).below b2 (by simp)
  have h2 := ((h1.alloc (by omega) (.cells #[.int .u8 116, .int .u8 97, .int .u8 103] 5 (3, 4))).below b2 (by simp; omega)).wide (Nat.le_refl _) (hi' := w2.heap.size) B2.size
  have hE2 := hT w2 h2 R2
  clear hE
  go_wp2_with fail
  with_reducible refine hE2.mono ?_
  rintro e w3 ⟨rfl, b3⟩
  go_wp2_with fail
  go_ret
  exact ⟨rfl, B2.trans (b3.mono B2.size)⟩
end Go.Proofs.YtachhbbofemfdaaDoor
