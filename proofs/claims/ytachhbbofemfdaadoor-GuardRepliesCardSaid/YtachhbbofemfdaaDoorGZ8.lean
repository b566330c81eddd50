/- append of bytes to a row of the call's own: the run itself, and the law at a guarded operation and at a step of a region that draws. No function of the program occurs here. A region that draws its order, where two operations may come up: both ways; one cell written at an operation by itself. No function of the program occurs here. The jar of cookies: the numbers combined with the pads, of the program. The jar of cookies: New, Rotate, Generation of both; numbers appended. The jar of cookies: Seal of the program. -/
import Derived.Test.YtachhbbofemfdaaDoorGZ1
import Derived.Test.YtachhbbofemfdaaDoorGZ4
import Derived.Test.YtachhbbofemfdaaDoorGZ3
import Derived.Test.YtachhbbofemfdaaDoorGZ7
namespace Go.Proofs.YtachhbbofemfdaaDoor
open Go.RowKit
set_option linter.unusedSimpArgs false
set_option linter.unusedVariables false
set_option maxRecDepth 100000
section
variable {w : World} {lo lo' hi' : Nat} {A B : Option Addr} {l m : List Int}
theorem run_append_bs (ty : TypeId) (n c m' c' : Nat) (hn : l.length = n) (hm : m.length = m') (hown : Ow w lo A c l) (hsrc : Bs w lo' hi' B m) (hsz : n + m' ≤ 140737488355328) (hlo : lo ≤ w.heap.size) :
    ∃ A' c'' w', (Builtin.append_ #[23, 23] ty #[.slice A n c, .slice B m' c']).run Tryd.prog w = .ok (.slice A' (n + m') c'') w' ∧ Ow w' lo A' c'' (l ++ m) ∧ Below lo w w' ∧ w.grownBy w' (Value.slice A n c).ownBlock := by
  obtain ⟨i, hi, hz, h1, h2⟩ := info_parts infoU8
  subst hn hm
  have done : ∀ v' w', (Builtin.append_ #[23, 23] ty #[.slice A l.length c, .slice B m.length c']).run Tryd.prog w = .ok v' w' → w'.ownsRow lo 5 1 v' (l.length + m.length) (l.map (Value.int .u8) ++ m.map (Value.int .u8)) → w.grownBy w' (Value.slice A l.length c).ownBlock →
      ∃ A' c'' w', (Builtin.append_ #[23, 23] ty #[.slice A l.length c, .slice B m.length c']).run Tryd.prog w = .ok (.slice A' (l.length + m.length) c'') w' ∧ Ow w' lo A' c'' (l ++ m) ∧ Below lo w w' ∧ w.grownBy w' (Value.slice A l.length c).ownBlock := by
    intro v' w' hrun r1 r2
    obtain ⟨A', c'', rfl, hO, _⟩ := Ow.mk r1 (l := l ++ m) (by rw [List.map_append]) (hown.1.app hsrc.byt)
    rw [List.length_append] at hrun
    exact ⟨A', c'', w', hrun, hO, below_of_grown r2 hlo fun k hk => (hown.2.lt k hk).1, r2⟩
  by_cases h0 : m.length = 0
  · obtain rfl : m = [] := List.eq_nil_of_length_eq_zero h0
    rcases B with _ | ad
    · refine done (.slice A l.length c) w ?_ (by simpa using hown.2) (World.grownBy.refl w _)
      rcases hown.2.2 with ⟨he, hl0⟩ | ⟨g, cap, cur, he, _, _, hnc, _⟩
      · rw [he]; simp [Builtin.append_, run_underlying Tryd.underlying23, sizeOf, typeInfo, hi, Builtin.lenOf, Builtin.firstCells]
      · rw [he]; simp [Builtin.append_, run_underlying Tryd.underlying23, sizeOf, typeInfo, hi, Builtin.lenOf, Builtin.firstCells, hnc, storeCells]
    · obtain ⟨v', w', hrun, r1, r2, _, r3⟩ := run_append_own_at (P := Tryd.prog) w lo 23 ty 5 i (.int .u8 0) 1 1 Tryd.underlying23 hi hz h1 h2 rfl (by omega) (.slice A l.length c) l.length _ hown.2
        ad 0 c' [] (by simp) (by simp) (by simp) (by unfold maxLen; simp at hsz; omega) (by simp at hsz; omega) hlo
      exact done v' w' hrun (by simpa using r1) r2
  · obtain ⟨b, off, rfl, _, _, hcell⟩ := hsrc.at (by omega)
    obtain ⟨v', w', hrun, r1, r2, _, r3⟩ := run_append_own_at (P := Tryd.prog) w lo 23 ty 5 i (.int .u8 0) 1 1 Tryd.underlying23 hi hz h1 h2 rfl (by omega) (.slice A l.length c) l.length _ hown.2
      ⟨b, off, none⟩ m.length c' (m.map (Value.int .u8)) (by simp) (cells_u8 hcell (Nat.le_refl _)) (oneCellU8 m) (by unfold maxLen; omega) (by omega) hlo
    exact done v' w' hrun r1 r2
theorem wp_append_bs {o : Oper} {a : Act} {K : Act → World → Prop} {Q : Exit → Act → World → Prop} (d s : Operand) (ho : o.op = .call { callee := .builtin .append, args := #[d, s], argTypes := #[23, 23] })
    (n c m' c' : Nat) (hd : a.eval d = .slice A n c) (hs : a.eval s = .slice B m' c') (hn : l.length = n) (hm : m.length = m') (hown : Ow w lo A c l) (hsrc : Bs w lo' hi' B m) (hsz : n + m' ≤ 140737488355328) (hlo : lo ≤ w.heap.size)
    (h : ∀ A' c' w', Ow w' lo A' c' (l ++ m) → Below lo w w' → K (a.put o.dst (.slice A' (n + m') c')) w') : o.wp Tryd.prog a w K Q := by
  obtain ⟨A', c'', w', hrun, h1, h2, _⟩ := run_append_bs (c' := c') o.type n c m' hn hm hown hsrc hsz hlo
  unfold Oper.wp execOp
  simp only [ho, resolve, invoke, builtin, Sem.run_bind, Sem.run_pure, Result.andThen_ok, List.map_toArray, List.map_cons, List.map_nil, hd, hs, hrun]
  exact h A' c'' w' h1 h2
theorem wpl_append_bs {ops : Array Oper} {rest : List Oper} {o : Oper} {a : Act} {Q : Exit → Act → World → Prop} (hw : Region.wanted o (yielded ops a.tmps) = true) (d s : Operand) (ho : o.op = .call { callee := .builtin .append, args := #[d, s], argTypes := #[23, 23] })
    (n c m' c' : Nat) (hd : a.eval d = .slice A n c) (hs : a.eval s = .slice B m' c') (hn : l.length = n) (hm : m.length = m') (hown : Ow w lo A c l) (hsrc : Bs w lo' hi' B m) (hsz : n + m' ≤ 140737488355328) (hlo : lo ≤ w.heap.size)
    (h : ∀ A' c' w', Ow w' lo A' c' (l ++ m) → Below lo w w' → wpList Tryd.prog ops Q rest (a.put o.dst (.slice A' (n + m') c')) w') : wpList Tryd.prog ops Q (o :: rest) a w :=
  wpl_want hw fun K hK => wp_append_bs d s ho n c m' c' hd hs hn hm hown hsrc hsz hlo fun A' c' w' h1 h2 => hK _ _ (h A' c' w' h1 h2)
end
end Go.Proofs.YtachhbbofemfdaaDoor
namespace Go.Proofs.YtachhbbofemfdaaDoor
open Go.RowKit
set_option linter.unusedSimpArgs false
set_option linter.unusedVariables false
set_option maxRecDepth 100000
section
variable {P : Program} {ops : Array Oper} {Q : Exit → Act → World → Prop} {md : Region.Mode} {S : World → Prop}
theorem wpH_two {i j : Nat} {oi oj : Oper} {fuel : Nat} {l : List Bool} {a : Act} {w : World} (hi : ops[i]? = some oi) (hj : ops[j]? = some oj) (hr : Region.ready md ops l.toArray = [i, j])
    (hwi : Region.wanted oi (yielded ops a.tmps) = true) (hwj : Region.wanted oj (yielded ops a.tmps) = true)
    (h1 : Oper.wp P oi a w (fun a' w' => S w' ∧ wpAnyH P md ops Q S fuel (l.set i true).toArray a' w') Q)
    (h2 : Oper.wp P oj a w (fun a' w' => S w' ∧ wpAnyH P md ops Q S fuel (l.set j true).toArray a' w') Q) : wpAnyH P md ops Q S (fuel + 1) l.toArray a w := by
  refine wpAnyH_all hr (by simp) fun k hk => ?_
  have hk' : k = i ∨ k = j := by simpa using hk
  unfold wpOp
  rcases hk' with rfl | rfl
  · rw [hi]
    show if Region.wanted oi (yielded ops a.tmps) = true then _ else _
    rw [if_pos hwi, List.setIfInBounds_toArray]
    exact .inl h1
  · rw [hj]
    show if Region.wanted oj (yielded ops a.tmps) = true then _ else _
    rw [if_pos hwj, List.setIfInBounds_toArray]
    exact .inl h2
end
section
variable {P : Program} {o : Oper} {a : Act} {w : World} {K : Act → World → Prop} {Q : Exit → Act → World → Prop}
/-- one cell is written, at an operation by itself -/
theorem wp_storef1 (T : TypeId) (x y : Operand) (ho : o.op = .store T x y) (b i : Nat) (hx : a.eval x = .pointer (some ⟨b, i, none⟩)) (v : Value) (hy : a.eval y = v) (hc : v.cells = #[v]) (h1 : v.oneCell' = true) (t : TypeId) (cs : List Value) (hB : Blk w b t cs) (hlt : i < cs.length)
    (hi : (P.info? T).map (·.size) = some 1) (h : K (a.put o.dst undef) (w.setCell ⟨b, i, none⟩ v)) : o.wp P a w K Q := by
  have ht : w.there b i 1 := fun j hj => by
    obtain rfl : j = 0 := by omega
    have := hB.there i hlt
    rwa [Nat.zero_add] at this
  have hr : (Instr.storeAt T (.pointer (some ⟨b, i, none⟩)) v).run P w = .ok () (w.setCell ⟨b, i, none⟩ v) := by
    have h2 := run_storeVar_mid (P := P) w b i T #[v] (by simpa using ht) (by simpa using hi) (by simpa using h1)
    have e : storeVar T ⟨b, i, none⟩ v = storeVar T ⟨b, i, none⟩ (.agg #[v]) := by unfold storeVar; rw [hc]; rfl
    simp only [Instr.storeAt, Instr.sureAddr, Sem.run_bind, Sem.run_pure, Result.andThen_ok, e, h2]
    rfl
  unfold Oper.wp execOp
  simp only [ho, hx, hy, Sem.run_bind, hr, Result.andThen_ok, Sem.run_pure]
  exact h
/-- one cell is read, at an operation by itself -/
theorem wp_loadf1 (T : TypeId) (x : Operand) (ho : o.op = .load T x) (b i : Nat) (hx : a.eval x = .pointer (some ⟨b, i, none⟩)) (v : Value) (hcell : w.cell? ⟨b, i, none⟩ = some v) (d : TypeDesc)
    (hu : P.underlying T = some d) (hd : d.isRow = false) (h : K (a.put o.dst v) w) : o.wp P a w K Q := by
  have hagg : (isAgg T).run P w = .ok false w := by
    unfold isAgg
    rw [Sem.run_bind, run_underlying hu w]
    cases d <;> simp_all
  have hr : (Instr.loadAt T (.pointer (some ⟨b, i, none⟩))).run P w = .ok v w := by
    simp [Instr.loadAt, Instr.sureAddr, loadVar, Sem.run_bind, hagg, hcell, go_sem]
  unfold Oper.wp execOp
  simp only [ho, hx, Sem.run_bind, hr, Result.andThen_ok, Sem.run_pure]
  exact h
end
end Go.Proofs.YtachhbbofemfdaaDoor
namespace Go.Proofs.YtachhbbofemfdaaDoor
open Go.RowKit
set_option linter.unusedSimpArgs false
set_option linter.unusedVariables false
set_option maxRecDepth 100000
abbrev fourL (a b c d : Int) : List Value := [.int .u64 a, .int .u64 b, .int .u64 c, .int .u64 d]
abbrev fourV (a b c d : Int) : Value := .agg #[.int .u64 a, .int .u64 b, .int .u64 c, .int .u64 d]
def xr (a b : Int) : Int := bits .xor .u64 a b
theorem xr_u64 {a b : Int} (ha : U64 a) (hb : U64 b) : U64 (xr a b) := xor_u64 ha hb
theorem size4 : (Tryd.prog.info? 95).map (·.size) = some 4 := by kernel_rfl
theorem zero4 : (Tryd.prog.info? 95).map (·.zero) = some (some (fourV 0 0 0 0)) := by kernel_rfl
theorem zeroU64'' : (Tryd.prog.info? 22).map (·.size) = some 1 := by kernel_rfl
def mskL (x0 x1 x2 x3 y0 y1 y2 y3 : Int) : Nat → List Value
  | 0 => fourL x0 x1 x2 x3
  | 1 => fourL y0 x1 x2 x3
  | 2 => fourL y0 y1 x2 x3
  | 3 => fourL y0 y1 y2 x3
  | _ => fourL y0 y1 y2 y3
open Go.RowKit
set_option maxHeartbeats 16000000 in
theorem mask_any (bj : Nat) (s k g gg nonce x0 x1 x2 x3 : Int) (w : World) (hs : U64 s) (hg : Gn g) (hn : U64 nonce) (hJ : Blk w bj 84 (jarL s k gg)) (hR : Rnd w) :
    Calls Tryd.prog 46 #[.pointer (some ⟨bj, 0, none⟩), fourV x0 x1 x2 x3, .int .i64 g, .int .u64 nonce] w fun e w' => e = .returned (fourV (xr x0 (padF s g nonce 0)) (xr x1 (padF s g nonce 1)) (xr x2 (padF s g nonce 2)) (xr x3 (padF s g nonce 3))) ∧ Below w.heap.size w w' := by
  have hM := fun W hJ hr => master_any bj s k g gg W hs hg hJ hr
  have hw0 := hR.lt
  have hbj := hJ.lt
  have hk1 := mkA_u64 s g
  have hk2 := mkB_u64 s g
  have hD' := fun W A hB hr => derive_any (mkA s g) (mkB s g) A 3 3 padL W hk1 hk2 rfl hB (by omega) (by omega) (by omega) hr
  have hu1 : U64 (mixF (tagF (mkA s g) (mkB s g) padL) 1) := mixF_u64 _ _
  have e0 : padF s g nonce 0 = mixF (mixF (mixF (tagF (mkA s g) (mkB s g) padL) 1) nonce) 1 := rfl
  have e1 : padF s g nonce 1 = mixF (mixF (mixF (tagF (mkA s g) (mkB s g) padL) 1) nonce) 2 := rfl
  have e2 : padF s g nonce 2 = mixF (mixF (mixF (tagF (mkA s g) (mkB s g) padL) 1) nonce) 3 := rfl
  have e3 : padF s g nonce 3 = mixF (mixF (mixF (tagF (mkA s g) (mkB s g) padL) 1) nonce) 4 := rfl
  rw [e0, e1, e2, e3]
  clear e0 e1 e2 e3
  generalize mixF (tagF (mkA s g) (mkB s g) padL) 1 = d1 at hD' hu1 ⊢
  generalize mixF (tagF (mkA s g) (mkB s g) padL) 2 = d2 at hD'
  generalize mkA s g = m1 at hM hk1 hD'
  generalize mkB s g = m2 at hM hk2 hD'
  have hMn := fun W hr => mix_any d1 nonce W hu1 hn hr
  have hu2 : U64 (mixF d1 nonce) := mixF_u64 _ _
  generalize mixF d1 nonce = sd at hMn hu2 ⊢
  have hM0 := fun W hr => mix_any sd 1 W hu2 ⟨by omega, by omega⟩ hr
  have hM1 := fun W hr => mix_any sd 2 W hu2 ⟨by omega, by omega⟩ hr
  have hM2 := fun W hr => mix_any sd 3 W hu2 ⟨by omega, by omega⟩ hr
  have hM3 := fun W hr => mix_any sd 4 W hu2 ⟨by omega, by omega⟩ hr
  generalize mixF sd 1 = p0 at hM0 ⊢
  generalize mixF sd 2 = p1 at hM1 ⊢
  generalize mixF sd 3 = p2 at hM2 ⊢
  generalize mixF sd 4 = p3 at hM3 ⊢
  have hx0 : bits .xor .u64 x0 p0 = xr x0 p0 := rfl
  have hx1 : bits .xor .u64 x1 p1 = xr x1 p1 := rfl
  have hx2 : bits .xor .u64 x2 p2 = xr x2 p2 := rfl
  have hx3 : bits .xor .u64 x3 p3 = xr x3 p3 := rfl
  generalize xr x0 p0 = y0 at hx0 ⊢
  generalize xr x1 p1 = y1 at hx1 ⊢
  generalize xr x2 p2 = y2 at hx2 ⊢
  generalize xr x3 p3 = y3 at hx3 ⊢
  have hcv := conv_bs 112 97 100
  clear hs hg hk1 hk2 hu1 hn hu2
  go_enter Tryd.func46, Tryd.ntmps46
  go_wp2_with (first
    | ((refine wpl_box (by rfl) 95 _ (by rfl) _ (fourL x0 x1 x2 x3) (by rfl) rfl ?_; intro w1 X1 s1 b1); (have J1 := hJ.below b1 hbj); (have R1 := hR.below b1 hw0))
    | ((with_reducible show wpList _ _ _ (⟨some 8, _, _, _, _, _⟩ :: _) _ _); refine wpl_alloc (by rfl) 95 (by rfl) (fourV 0 0 0 0) (fourL 0 0 0 0) zero4 rfl ?_; intro w2 T2 s2 b2; (have X2 := X1.below b2 (by omega)); (have J2 := J1.below b2 (by omega)); (have R2 := R1.below b2 R1.lt))
    | (go_at_call 80; ((with_reducible refine (hM _ J2 R2).mono ?_); rintro e w3 ⟨rfl, b3⟩; (have X3 := X2.below b3 (by omega)); (have T3 := T2.below b3 (by omega)); (have R3 := R2.below b3 R2.lt); (have z3 := b3.size))))
  have b4 : Below w3.heap.size w3 (w3.alloc (.cells #[.int .u8 112, .int .u8 97, .int .u8 100] 5 (3, 4))) := (Below.refl _ w3).alloc (Nat.le_refl _) _
  have hE := hD' _ _ (bs3 (w := w3) bytPad) (R3.alloc _)
  have X4 := X3.below b4 (by omega)
  have T4 := T3.below b4 (by omega)
  have R4 := R3.below b4 R3.lt
  have B4 := ((b1.trans (b2.mono (by omega))).trans (b3.mono (by omega))).trans (b4.mono (by omega))
  have s4 : w3.heap.size < (w3.alloc (.cells #[.int .u8 112, .int .u8 97, .int .u8 100] 5 (3, 4))).heap.size := by simp
  obtain ⟨w4, hw4⟩ : ∃ w4, w4 = w3.alloc (.cells #[.int .u8 112, .int .u8 97, .int .u8 100] 5 (3, 4)) := ⟨_, rfl⟩
  rw [← hw4] at hE X4 T4 R4 B4 s4 ⊢
  clear hw4 hD' hM X3 T3 R3 X2 X1 J1 J2 R1 R2 T2 b1 b2 b3 b4 hJ hR hcv
  with_reducible refine hE.mono ?_
  rintro e w5 ⟨rfl, b5⟩
  have X5 := X4.below b5 (by omega)
  have T5 := T4.below b5 (by omega)
  have R5 := R4.below b5 R4.lt
  have B5 := B4.trans (b5.mono B4.size)
  have z5 := b5.size
  clear X4 T4 R4 B4 b5 hE
  go_wp2_with (first
    | (refine wpl_alloc (by rfl) 29 (by rfl) (keyV 0 0) (keyL 0 0) zeroKey rfl ?_; intro w6 D6 s6 b6)
    | (refine wpl_store (by rfl) 29 _ _ (by rfl) w5.heap.size (by rfl) _ (by rfl) (keyL d1 d2) rfl 29 _ D6 (show (2 : Nat) = 2 from rfl) _ sizeKey (by rfl) (by simp [Value.oneCell']) ?_; intro w7 D7 s7 g7; (have R7 := (R5.below b6 R5.lt).but g7 (by have := R5.lt; omega)))
    | (refine wpl_loadf (by rfl) 22 _ (by rfl) w5.heap.size 0 (by rfl) _ _ D7 _ rfl _ Tryd.underlying22 rfl ?_)
    | (go_at_call 81; ((with_reducible refine (hMn _ R7).mono ?_); rintro e w8 ⟨rfl, b8⟩)))
  have R8 := R7.below b8 R7.lt
  have X8 := ((X5.below b6 (by omega)).but g7 (by omega)).below b8 (by omega)
  have T8 := ((T5.below b6 (by omega)).but g7 (by omega)).below b8 (by omega)
  have B8 := ((B5.trans (b6.mono B5.size)).trans (g7.below (by have := B5.size; omega) B5.size)).trans (b8.mono (by have := B5.size; omega))
  clear X5 T5 R5 B5 b6 g7 b8 D6 D7 R7 hMn
  have hne : w.heap.size ≠ w1.heap.size := by omega
  have hw1 : w.heap.size < w1.heap.size := by omega
  generalize w1.heap.size = bt at T8 hne hw1 ⊢
  clear z5 s4 z3 s2 s1 s6 s7
  go_loopw [22] (fun i wr => ∃ k : Nat, k ≤ 4 ∧ i = .int .i64 k ∧ Blk wr w.heap.size 95 (mskL x0 x1 x2 x3 y0 y1 y2 y3 k) ∧ Blk wr bt 95 (fourL 0 0 0 0) ∧ Rnd wr ∧ Below w.heap.size w wr) (fun i _ => 4 - (intOf i).toNat)
  case atStart => exact ⟨0, by omega, rfl, X8, T8, R8, B8⟩
  case round =>
    obtain ⟨k, hk, rfl, hX, hT, hR, hB⟩ := hrel
    obtain ⟨wo, rfl⟩ : ∃ wo : World, wo = wr := ⟨wr, rfl⟩
    clear X8 T8 R8 B8
    have : k = 0 ∨ k = 1 ∨ k = 2 ∨ k = 3 ∨ k = 4 := by omega
    rcases this with rfl | rfl | rfl | rfl | rfl
    · skip
      have q1 := hX.drew
      have q2 := hR.drew
      have q0 := q1.cell (i := 0) (v := .int .u64 x0) rfl
      have hwk : IntKind.u64.wrap (IntKind.u64.wrap 0 + 1) = 1 := by decide
      go_wp2_with fail
      refine wp_region_heldL (fun y => 0 < y.heap.size) 11 (by kernel_rfl) rfl q2.lt fun hHeld => ?_
      simp only [List.replicate]
      (refine wpH_take (i := 0) (v := _) (by simp only [List.getElem?_toArray, List.getElem?_cons_succ, List.getElem?_cons_zero]; rfl) (by kernel_rfl) (by kernel_rfl) (by kernel_rfl) (by intro _ _ _ h; exact h) (Or.inl ⟨by rfl, (by intro w' hSw; (try dsimp only at hSw); go_simp; first | done | with_reducible rfl)⟩) (by assumption) ?_; (try simp only [Act.put, List.setIfInBounds_toArray, List.set_cons_zero, List.set_cons_succ]))
      (refine wpH_take (i := 1) (v := _) (by simp only [List.getElem?_toArray, List.getElem?_cons_succ, List.getElem?_cons_zero]; rfl) (by kernel_rfl) (by kernel_rfl) (by kernel_rfl) (by intro _ _ _ h; exact h) (Or.inl ⟨by rfl, (by intro w' hSw; (try dsimp only at hSw); go_simp; first | done | with_reducible rfl)⟩) (by assumption) ?_; (try simp only [Act.put, List.setIfInBounds_toArray, List.set_cons_zero, List.set_cons_succ]))
      (refine wpH_take (i := 3) (v := _) (by simp only [List.getElem?_toArray, List.getElem?_cons_succ, List.getElem?_cons_zero]; rfl) (by kernel_rfl) (by kernel_rfl) (by kernel_rfl) (by intro _ _ _ h; exact h) (Or.inl ⟨by rfl, (by intro w' hSw; (try dsimp only at hSw); go_simp; first | done | with_reducible rfl)⟩) (by assumption) ?_; (try simp only [Act.put, List.setIfInBounds_toArray, List.set_cons_zero, List.set_cons_succ]))
      (refine wpH_take (i := 4) (v := _) (by simp only [List.getElem?_toArray, List.getElem?_cons_succ, List.getElem?_cons_zero]; rfl) (by kernel_rfl) (by kernel_rfl) (by kernel_rfl) (by intro _ _ _ h; exact h) (Or.inl ⟨by rfl, (by intro w' hSw; (try dsimp only at hSw); go_simp; first | done | with_reducible rfl)⟩) (by assumption) ?_; (try simp only [Act.put, List.setIfInBounds_toArray, List.set_cons_zero, List.set_cons_succ]))
      (refine wpH_take (i := 5) (v := _) (by simp only [List.getElem?_toArray, List.getElem?_cons_succ, List.getElem?_cons_zero]; rfl) (by kernel_rfl) (by kernel_rfl) (by kernel_rfl) (by intro _ _ _ h; exact h) (Or.inl ⟨by rfl, (by intro w' hSw; (try dsimp only at hSw); go_simp; first | done | with_reducible rfl)⟩) (by assumption) ?_; (try simp only [Act.put, List.setIfInBounds_toArray, List.set_cons_zero, List.set_cons_succ]))
      (refine wpH_take (i := 6) (v := _) (by simp only [List.getElem?_toArray, List.getElem?_cons_succ, List.getElem?_cons_zero]; rfl) (by kernel_rfl) (by kernel_rfl) (by kernel_rfl) (by intro _ _ _ h; exact h) (Or.inl ⟨by rfl, (by intro w' hSw; (try dsimp only at hSw); go_simp; first | done | with_reducible rfl)⟩) (by assumption) ?_; (try simp only [Act.put, List.setIfInBounds_toArray, List.set_cons_zero, List.set_cons_succ]))
      refine wpH_two (i := 2) (j := 7) (by simp only [List.getElem?_toArray, List.getElem?_cons_succ, List.getElem?_cons_zero]; rfl) (by simp only [List.getElem?_toArray, List.getElem?_cons_succ, List.getElem?_cons_zero]; rfl) (by kernel_rfl) (by rfl) (by rfl) ?_ ?_
      · refine wp_loadf1 22 _ (by rfl) w.heap.size 0 (by rfl) (.int .u64 x0) q0 _ Tryd.underlying22 rfl ?_
        refine ⟨hHeld, ?_⟩
        (try simp only [Act.put, List.setIfInBounds_toArray, List.set_cons_zero, List.set_cons_succ])
        (refine wpH_one (i := 7) (by simp only [List.getElem?_toArray, List.getElem?_cons_succ, List.getElem?_cons_zero]; rfl) (by kernel_rfl) (by rfl) ?_; (go_simp; (with_reducible refine (hM0 wo.drew q2).mono ?_); rintro e w2 ⟨rfl, b2⟩; refine ⟨(q2.below b2 q2.lt).lt, ?_⟩); (try simp only [Act.put, List.setIfInBounds_toArray, List.set_cons_zero, List.set_cons_succ]))
        have J2 := q1.below b2 q1.lt
        have R2 := q2.below b2 q2.lt
        have hH2 := R2.lt
        have T2 := hT.drew.below b2 hT.lt
        have B2 := hB.drew.trans (b2.mono hB.size)
        have z2 : wo.heap.size ≤ w2.heap.size := b2.size
        (refine wpH_take (i := 8) (v := _) (by simp only [List.getElem?_toArray, List.getElem?_cons_succ, List.getElem?_cons_zero]; rfl) (by kernel_rfl) (by kernel_rfl) (by kernel_rfl) (by intro _ _ _ h; exact h) (Or.inl ⟨by rfl, (by intro w' hSw; (try dsimp only at hSw); go_simp; first | done | with_reducible rfl)⟩) (by assumption) ?_; (try simp only [Act.put, List.setIfInBounds_toArray, List.set_cons_zero, List.set_cons_succ]))
        (refine wpH_take (i := 9) (v := _) (by simp only [List.getElem?_toArray, List.getElem?_cons_succ, List.getElem?_cons_zero]; rfl) (by kernel_rfl) (by kernel_rfl) (by kernel_rfl) (by intro _ _ _ h; exact h) (Or.inl ⟨by rfl, (by intro w' hSw; (try dsimp only at hSw); go_simp; first | done | with_reducible rfl)⟩) (by assumption) ?_; (try simp only [Act.put, List.setIfInBounds_toArray, List.set_cons_zero, List.set_cons_succ]))
        obtain ⟨w3, hw3⟩ : ∃ w3, w3 = w2.setCell ⟨w.heap.size, 0, none⟩ (.int .u64 y0) := ⟨_, rfl⟩
        have J3 : Blk w3 w.heap.size 95 (fourL y0 x1 x2 x3) := by rw [hw3]; exact J2.set 0 _
        have G3 : But w.heap.size w2 w3 := by rw [hw3]; exact but_setCell _ _ _ _
        (refine wpH_one (i := 10) (by simp only [List.getElem?_toArray, List.getElem?_cons_succ, List.getElem?_cons_zero]; rfl) (by kernel_rfl) (by rfl) ?_; (refine wp_storef1 22 (.tmp 34) (.tmp 33) (by rfl) w.heap.size 0 (by rfl) (.int .u64 y0) (by rfl) (by rfl) (by simp [Value.oneCell']) 95 _ J2 (show 0 < 4 by omega) zeroU64'' ?_; rw [← hw3]; refine ⟨by have := J3.lt; omega, ?_⟩); (try simp only [Act.put, List.setIfInBounds_toArray, List.set_cons_zero, List.set_cons_succ]))
        refine wpH_done (by kernel_rfl) ?_ _
        have T3 := T2.but G3 (Ne.symm hne)
        have R3 := R2.but G3 (by have := R2.lt; omega)
        have B3 := B2.trans (G3.below B2.size (Nat.le_refl _))
        clear hHeld q0 q1 q2 hX hT hR hB J2 R2 T2 B2 G3 hw3 b2
        go_wp2_with fail
        exact ⟨⟨1, by omega, rfl, J3, T3, R3, B3⟩, by simp [intOf] <;> decide⟩
      · go_simp
        with_reducible refine (hM0 wo.drew q2).mono ?_
        rintro e w2 ⟨rfl, b2⟩
        refine ⟨(q2.below b2 q2.lt).lt, ?_⟩
        (try simp only [Act.put, List.setIfInBounds_toArray, List.set_cons_zero, List.set_cons_succ])
        have q3 := (q1.below b2 q1.lt).cell (i := 0) (v := .int .u64 x0) rfl
        (refine wpH_one (i := 2) (by simp only [List.getElem?_toArray, List.getElem?_cons_succ, List.getElem?_cons_zero]; rfl) (by kernel_rfl) (by rfl) ?_; (refine wp_loadf1 22 _ (by rfl) w.heap.size 0 (by rfl) (.int .u64 x0) q3 _ Tryd.underlying22 rfl ?_; refine ⟨(q2.below b2 q2.lt).lt, ?_⟩); (try simp only [Act.put, List.setIfInBounds_toArray, List.set_cons_zero, List.set_cons_succ]))
        have J2 := q1.below b2 q1.lt
        have R2 := q2.below b2 q2.lt
        have hH2 := R2.lt
        have T2 := hT.drew.below b2 hT.lt
        have B2 := hB.drew.trans (b2.mono hB.size)
        have z2 : wo.heap.size ≤ w2.heap.size := b2.size
        (refine wpH_take (i := 8) (v := _) (by simp only [List.getElem?_toArray, List.getElem?_cons_succ, List.getElem?_cons_zero]; rfl) (by kernel_rfl) (by kernel_rfl) (by kernel_rfl) (by intro _ _ _ h; exact h) (Or.inl ⟨by rfl, (by intro w' hSw; (try dsimp only at hSw); go_simp; first | done | with_reducible rfl)⟩) (by assumption) ?_; (try simp only [Act.put, List.setIfInBounds_toArray, List.set_cons_zero, List.set_cons_succ]))
        (refine wpH_take (i := 9) (v := _) (by simp only [List.getElem?_toArray, List.getElem?_cons_succ, List.getElem?_cons_zero]; rfl) (by kernel_rfl) (by kernel_rfl) (by kernel_rfl) (by intro _ _ _ h; exact h) (Or.inl ⟨by rfl, (by intro w' hSw; (try dsimp only at hSw); go_simp; first | done | with_reducible rfl)⟩) (by assumption) ?_; (try simp only [Act.put, List.setIfInBounds_toArray, List.set_cons_zero, List.set_cons_succ]))
        obtain ⟨w3, hw3⟩ : ∃ w3, w3 = w2.setCell ⟨w.heap.size, 0, none⟩ (.int .u64 y0) := ⟨_, rfl⟩
        have J3 : Blk w3 w.heap.size 95 (fourL y0 x1 x2 x3) := by rw [hw3]; exact J2.set 0 _
        have G3 : But w.heap.size w2 w3 := by rw [hw3]; exact but_setCell _ _ _ _
        (refine wpH_one (i := 10) (by simp only [List.getElem?_toArray, List.getElem?_cons_succ, List.getElem?_cons_zero]; rfl) (by kernel_rfl) (by rfl) ?_; (refine wp_storef1 22 (.tmp 34) (.tmp 33) (by rfl) w.heap.size 0 (by rfl) (.int .u64 y0) (by rfl) (by rfl) (by simp [Value.oneCell']) 95 _ J2 (show 0 < 4 by omega) zeroU64'' ?_; rw [← hw3]; refine ⟨by have := J3.lt; omega, ?_⟩); (try simp only [Act.put, List.setIfInBounds_toArray, List.set_cons_zero, List.set_cons_succ]))
        refine wpH_done (by kernel_rfl) ?_ _
        have T3 := T2.but G3 (Ne.symm hne)
        have R3 := R2.but G3 (by have := R2.lt; omega)
        have B3 := B2.trans (G3.below B2.size (Nat.le_refl _))
        clear hHeld q0 q1 q2 hX hT hR hB J2 R2 T2 B2 G3 hw3 b2
        go_wp2_with fail
        exact ⟨⟨1, by omega, rfl, J3, T3, R3, B3⟩, by simp [intOf] <;> decide⟩
    · skip
      have q1 := hX.drew
      have q2 := hR.drew
      have q0 := q1.cell (i := 1) (v := .int .u64 x1) rfl
      have hwk : IntKind.u64.wrap (IntKind.u64.wrap 1 + 1) = 2 := by decide
      go_wp2_with fail
      refine wp_region_heldL (fun y => 0 < y.heap.size) 11 (by kernel_rfl) rfl q2.lt fun hHeld => ?_
      simp only [List.replicate]
      (refine wpH_take (i := 0) (v := _) (by simp only [List.getElem?_toArray, List.getElem?_cons_succ, List.getElem?_cons_zero]; rfl) (by kernel_rfl) (by kernel_rfl) (by kernel_rfl) (by intro _ _ _ h; exact h) (Or.inl ⟨by rfl, (by intro w' hSw; (try dsimp only at hSw); go_simp; first | done | with_reducible rfl)⟩) (by assumption) ?_; (try simp only [Act.put, List.setIfInBounds_toArray, List.set_cons_zero, List.set_cons_succ]))
      (refine wpH_take (i := 1) (v := _) (by simp only [List.getElem?_toArray, List.getElem?_cons_succ, List.getElem?_cons_zero]; rfl) (by kernel_rfl) (by kernel_rfl) (by kernel_rfl) (by intro _ _ _ h; exact h) (Or.inl ⟨by rfl, (by intro w' hSw; (try dsimp only at hSw); go_simp; first | done | with_reducible rfl)⟩) (by assumption) ?_; (try simp only [Act.put, List.setIfInBounds_toArray, List.set_cons_zero, List.set_cons_succ]))
      (refine wpH_take (i := 3) (v := _) (by simp only [List.getElem?_toArray, List.getElem?_cons_succ, List.getElem?_cons_zero]; rfl) (by kernel_rfl) (by kernel_rfl) (by kernel_rfl) (by intro _ _ _ h; exact h) (Or.inl ⟨by rfl, (by intro w' hSw; (try dsimp only at hSw); go_simp; first | done | with_reducible rfl)⟩) (by assumption) ?_; (try simp only [Act.put, List.setIfInBounds_toArray, List.set_cons_zero, List.set_cons_succ]))
      (refine wpH_take (i := 4) (v := _) (by simp only [List.getElem?_toArray, List.getElem?_cons_succ, List.getElem?_cons_zero]; rfl) (by kernel_rfl) (by kernel_rfl) (by kernel_rfl) (by intro _ _ _ h; exact h) (Or.inl ⟨by rfl, (by intro w' hSw; (try dsimp only at hSw); go_simp; first | done | with_reducible rfl)⟩) (by assumption) ?_; (try simp only [Act.put, List.setIfInBounds_toArray, List.set_cons_zero, List.set_cons_succ]))
      (refine wpH_take (i := 5) (v := _) (by simp only [List.getElem?_toArray, List.getElem?_cons_succ, List.getElem?_cons_zero]; rfl) (by kernel_rfl) (by kernel_rfl) (by kernel_rfl) (by intro _ _ _ h; exact h) (Or.inl ⟨by rfl, (by intro w' hSw; (try dsimp only at hSw); go_simp; first | done | with_reducible rfl)⟩) (by assumption) ?_; (try simp only [Act.put, List.setIfInBounds_toArray, List.set_cons_zero, List.set_cons_succ]))
      (refine wpH_take (i := 6) (v := _) (by simp only [List.getElem?_toArray, List.getElem?_cons_succ, List.getElem?_cons_zero]; rfl) (by kernel_rfl) (by kernel_rfl) (by kernel_rfl) (by intro _ _ _ h; exact h) (Or.inl ⟨by rfl, (by intro w' hSw; (try dsimp only at hSw); go_simp; first | done | with_reducible rfl)⟩) (by assumption) ?_; (try simp only [Act.put, List.setIfInBounds_toArray, List.set_cons_zero, List.set_cons_succ]))
      refine wpH_two (i := 2) (j := 7) (by simp only [List.getElem?_toArray, List.getElem?_cons_succ, List.getElem?_cons_zero]; rfl) (by simp only [List.getElem?_toArray, List.getElem?_cons_succ, List.getElem?_cons_zero]; rfl) (by kernel_rfl) (by rfl) (by rfl) ?_ ?_
      · refine wp_loadf1 22 _ (by rfl) w.heap.size 1 (by rfl) (.int .u64 x1) q0 _ Tryd.underlying22 rfl ?_
        refine ⟨hHeld, ?_⟩
        (try simp only [Act.put, List.setIfInBounds_toArray, List.set_cons_zero, List.set_cons_succ])
        (refine wpH_one (i := 7) (by simp only [List.getElem?_toArray, List.getElem?_cons_succ, List.getElem?_cons_zero]; rfl) (by kernel_rfl) (by rfl) ?_; (go_simp; (with_reducible refine (hM1 wo.drew q2).mono ?_); rintro e w2 ⟨rfl, b2⟩; refine ⟨(q2.below b2 q2.lt).lt, ?_⟩); (try simp only [Act.put, List.setIfInBounds_toArray, List.set_cons_zero, List.set_cons_succ]))
        have J2 := q1.below b2 q1.lt
        have R2 := q2.below b2 q2.lt
        have hH2 := R2.lt
        have T2 := hT.drew.below b2 hT.lt
        have B2 := hB.drew.trans (b2.mono hB.size)
        have z2 : wo.heap.size ≤ w2.heap.size := b2.size
        (refine wpH_take (i := 8) (v := _) (by simp only [List.getElem?_toArray, List.getElem?_cons_succ, List.getElem?_cons_zero]; rfl) (by kernel_rfl) (by kernel_rfl) (by kernel_rfl) (by intro _ _ _ h; exact h) (Or.inl ⟨by rfl, (by intro w' hSw; (try dsimp only at hSw); go_simp; first | done | with_reducible rfl)⟩) (by assumption) ?_; (try simp only [Act.put, List.setIfInBounds_toArray, List.set_cons_zero, List.set_cons_succ]))
        (refine wpH_take (i := 9) (v := _) (by simp only [List.getElem?_toArray, List.getElem?_cons_succ, List.getElem?_cons_zero]; rfl) (by kernel_rfl) (by kernel_rfl) (by kernel_rfl) (by intro _ _ _ h; exact h) (Or.inl ⟨by rfl, (by intro w' hSw; (try dsimp only at hSw); go_simp; first | done | with_reducible rfl)⟩) (by assumption) ?_; (try simp only [Act.put, List.setIfInBounds_toArray, List.set_cons_zero, List.set_cons_succ]))
        obtain ⟨w3, hw3⟩ : ∃ w3, w3 = w2.setCell ⟨w.heap.size, 1, none⟩ (.int .u64 y1) := ⟨_, rfl⟩
        have J3 : Blk w3 w.heap.size 95 (fourL y0 y1 x2 x3) := by rw [hw3]; exact J2.set 1 _
        have G3 : But w.heap.size w2 w3 := by rw [hw3]; exact but_setCell _ _ _ _
        (refine wpH_one (i := 10) (by simp only [List.getElem?_toArray, List.getElem?_cons_succ, List.getElem?_cons_zero]; rfl) (by kernel_rfl) (by rfl) ?_; (refine wp_storef1 22 (.tmp 34) (.tmp 33) (by rfl) w.heap.size 1 (by rfl) (.int .u64 y1) (by rfl) (by rfl) (by simp [Value.oneCell']) 95 _ J2 (show 1 < 4 by omega) zeroU64'' ?_; rw [← hw3]; refine ⟨by have := J3.lt; omega, ?_⟩); (try simp only [Act.put, List.setIfInBounds_toArray, List.set_cons_zero, List.set_cons_succ]))
        refine wpH_done (by kernel_rfl) ?_ _
        have T3 := T2.but G3 (Ne.symm hne)
        have R3 := R2.but G3 (by have := R2.lt; omega)
        have B3 := B2.trans (G3.below B2.size (Nat.le_refl _))
        clear hHeld q0 q1 q2 hX hT hR hB J2 R2 T2 B2 G3 hw3 b2
        go_wp2_with fail
        exact ⟨⟨2, by omega, rfl, J3, T3, R3, B3⟩, by simp [intOf] <;> decide⟩
      · go_simp
        with_reducible refine (hM1 wo.drew q2).mono ?_
        rintro e w2 ⟨rfl, b2⟩
        refine ⟨(q2.below b2 q2.lt).lt, ?_⟩
        (try simp only [Act.put, List.setIfInBounds_toArray, List.set_cons_zero, List.set_cons_succ])
        have q3 := (q1.below b2 q1.lt).cell (i := 1) (v := .int .u64 x1) rfl
        (refine wpH_one (i := 2) (by simp only [List.getElem?_toArray, List.getElem?_cons_succ, List.getElem?_cons_zero]; rfl) (by kernel_rfl) (by rfl) ?_; (refine wp_loadf1 22 _ (by rfl) w.heap.size 1 (by rfl) (.int .u64 x1) q3 _ Tryd.underlying22 rfl ?_; refine ⟨(q2.below b2 q2.lt).lt, ?_⟩); (try simp only [Act.put, List.setIfInBounds_toArray, List.set_cons_zero, List.set_cons_succ]))
        have J2 := q1.below b2 q1.lt
        have R2 := q2.below b2 q2.lt
        have hH2 := R2.lt
        have T2 := hT.drew.below b2 hT.lt
        have B2 := hB.drew.trans (b2.mono hB.size)
        have z2 : wo.heap.size ≤ w2.heap.size := b2.size
        (refine wpH_take (i := 8) (v := _) (by simp only [List.getElem?_toArray, List.getElem?_cons_succ, List.getElem?_cons_zero]; rfl) (by kernel_rfl) (by kernel_rfl) (by kernel_rfl) (by intro _ _ _ h; exact h) (Or.inl ⟨by rfl, (by intro w' hSw; (try dsimp only at hSw); go_simp; first | done | with_reducible rfl)⟩) (by assumption) ?_; (try simp only [Act.put, List.setIfInBounds_toArray, List.set_cons_zero, List.set_cons_succ]))
        (refine wpH_take (i := 9) (v := _) (by simp only [List.getElem?_toArray, List.getElem?_cons_succ, List.getElem?_cons_zero]; rfl) (by kernel_rfl) (by kernel_rfl) (by kernel_rfl) (by intro _ _ _ h; exact h) (Or.inl ⟨by rfl, (by intro w' hSw; (try dsimp only at hSw); go_simp; first | done | with_reducible rfl)⟩) (by assumption) ?_; (try simp only [Act.put, List.setIfInBounds_toArray, List.set_cons_zero, List.set_cons_succ]))
        obtain ⟨w3, hw3⟩ : ∃ w3, w3 = w2.setCell ⟨w.heap.size, 1, none⟩ (.int .u64 y1) := ⟨_, rfl⟩
        have J3 : Blk w3 w.heap.size 95 (fourL y0 y1 x2 x3) := by rw [hw3]; exact J2.set 1 _
        have G3 : But w.heap.size w2 w3 := by rw [hw3]; exact but_setCell _ _ _ _
        (refine wpH_one (i := 10) (by simp only [List.getElem?_toArray, List.getElem?_cons_succ, List.getElem?_cons_zero]; rfl) (by kernel_rfl) (by rfl) ?_; (refine wp_storef1 22 (.tmp 34) (.tmp 33) (by rfl) w.heap.size 1 (by rfl) (.int .u64 y1) (by rfl) (by rfl) (by simp [Value.oneCell']) 95 _ J2 (show 1 < 4 by omega) zeroU64'' ?_; rw [← hw3]; refine ⟨by have := J3.lt; omega, ?_⟩); (try simp only [Act.put, List.setIfInBounds_toArray, List.set_cons_zero, List.set_cons_succ]))
        refine wpH_done (by kernel_rfl) ?_ _
        have T3 := T2.but G3 (Ne.symm hne)
        have R3 := R2.but G3 (by have := R2.lt; omega)
        have B3 := B2.trans (G3.below B2.size (Nat.le_refl _))
        clear hHeld q0 q1 q2 hX hT hR hB J2 R2 T2 B2 G3 hw3 b2
        go_wp2_with fail
        exact ⟨⟨2, by omega, rfl, J3, T3, R3, B3⟩, by simp [intOf] <;> decide⟩
    · skip
      have q1 := hX.drew
      have q2 := hR.drew
      have q0 := q1.cell (i := 2) (v := .int .u64 x2) rfl
      have hwk : IntKind.u64.wrap (IntKind.u64.wrap 2 + 1) = 3 := by decide
      go_wp2_with fail
      refine wp_region_heldL (fun y => 0 < y.heap.size) 11 (by kernel_rfl) rfl q2.lt fun hHeld => ?_
      simp only [List.replicate]
      (refine wpH_take (i := 0) (v := _) (by simp only [List.getElem?_toArray, List.getElem?_cons_succ, List.getElem?_cons_zero]; rfl) (by kernel_rfl) (by kernel_rfl) (by kernel_rfl) (by intro _ _ _ h; exact h) (Or.inl ⟨by rfl, (by intro w' hSw; (try dsimp only at hSw); go_simp; first | done | with_reducible rfl)⟩) (by assumption) ?_; (try simp only [Act.put, List.setIfInBounds_toArray, List.set_cons_zero, List.set_cons_succ]))
      (refine wpH_take (i := 1) (v := _) (by simp only [List.getElem?_toArray, List.getElem?_cons_succ, List.getElem?_cons_zero]; rfl) (by kernel_rfl) (by kernel_rfl) (by kernel_rfl) (by intro _ _ _ h; exact h) (Or.inl ⟨by rfl, (by intro w' hSw; (try dsimp only at hSw); go_simp; first | done | with_reducible rfl)⟩) (by assumption) ?_; (try simp only [Act.put, List.setIfInBounds_toArray, List.set_cons_zero, List.set_cons_succ]))
      (refine wpH_take (i := 3) (v := _) (by simp only [List.getElem?_toArray, List.getElem?_cons_succ, List.getElem?_cons_zero]; rfl) (by kernel_rfl) (by kernel_rfl) (by kernel_rfl) (by intro _ _ _ h; exact h) (Or.inl ⟨by rfl, (by intro w' hSw; (try dsimp only at hSw); go_simp; first | done | with_reducible rfl)⟩) (by assumption) ?_; (try simp only [Act.put, List.setIfInBounds_toArray, List.set_cons_zero, List.set_cons_succ]))
      (refine wpH_take (i := 4) (v := _) (by simp only [List.getElem?_toArray, List.getElem?_cons_succ, List.getElem?_cons_zero]; rfl) (by kernel_rfl) (by kernel_rfl) (by kernel_rfl) (by intro _ _ _ h; exact h) (Or.inl ⟨by rfl, (by intro w' hSw; (try dsimp only at hSw); go_simp; first | done | with_reducible rfl)⟩) (by assumption) ?_; (try simp only [Act.put, List.setIfInBounds_toArray, List.set_cons_zero, List.set_cons_succ]))
      (refine wpH_take (i := 5) (v := _) (by simp only [List.getElem?_toArray, List.getElem?_cons_succ, List.getElem?_cons_zero]; rfl) (by kernel_rfl) (by kernel_rfl) (by kernel_rfl) (by intro _ _ _ h; exact h) (Or.inl ⟨by rfl, (by intro w' hSw; (try dsimp only at hSw); go_simp; first | done | with_reducible rfl)⟩) (by assumption) ?_; (try simp only [Act.put, List.setIfInBounds_toArray, List.set_cons_zero, List.set_cons_succ]))
      (refine wpH_take (i := 6) (v := _) (by simp only [List.getElem?_toArray, List.getElem?_cons_succ, List.getElem?_cons_zero]; rfl) (by kernel_rfl) (by kernel_rfl) (by kernel_rfl) (by intro _ _ _ h; exact h) (Or.inl ⟨by rfl, (by intro w' hSw; (try dsimp only at hSw); go_simp; first | done | with_reducible rfl)⟩) (by assumption) ?_; (try simp only [Act.put, List.setIfInBounds_toArray, List.set_cons_zero, List.set_cons_succ]))
      refine wpH_two (i := 2) (j := 7) (by simp only [List.getElem?_toArray, List.getElem?_cons_succ, List.getElem?_cons_zero]; rfl) (by simp only [List.getElem?_toArray, List.getElem?_cons_succ, List.getElem?_cons_zero]; rfl) (by kernel_rfl) (by rfl) (by rfl) ?_ ?_
      · refine wp_loadf1 22 _ (by rfl) w.heap.size 2 (by rfl) (.int .u64 x2) q0 _ Tryd.underlying22 rfl ?_
        refine ⟨hHeld, ?_⟩
        (try simp only [Act.put, List.setIfInBounds_toArray, List.set_cons_zero, List.set_cons_succ])
        (refine wpH_one (i := 7) (by simp only [List.getElem?_toArray, List.getElem?_cons_succ, List.getElem?_cons_zero]; rfl) (by kernel_rfl) (by rfl) ?_; (go_simp; (with_reducible refine (hM2 wo.drew q2).mono ?_); rintro e w2 ⟨rfl, b2⟩; refine ⟨(q2.below b2 q2.lt).lt, ?_⟩); (try simp only [Act.put, List.setIfInBounds_toArray, List.set_cons_zero, List.set_cons_succ]))
        have J2 := q1.below b2 q1.lt
        have R2 := q2.below b2 q2.lt
        have hH2 := R2.lt
        have T2 := hT.drew.below b2 hT.lt
        have B2 := hB.drew.trans (b2.mono hB.size)
        have z2 : wo.heap.size ≤ w2.heap.size := b2.size
        (refine wpH_take (i := 8) (v := _) (by simp only [List.getElem?_toArray, List.getElem?_cons_succ, List.getElem?_cons_zero]; rfl) (by kernel_rfl) (by kernel_rfl) (by kernel_rfl) (by intro _ _ _ h; exact h) (Or.inl ⟨by rfl, (by intro w' hSw; (try dsimp only at hSw); go_simp; first | done | with_reducible rfl)⟩) (by assumption) ?_; (try simp only [Act.put, List.setIfInBounds_toArray, List.set_cons_zero, List.set_cons_succ]))
        (refine wpH_take (i := 9) (v := _) (by simp only [List.getElem?_toArray, List.getElem?_cons_succ, List.getElem?_cons_zero]; rfl) (by kernel_rfl) (by kernel_rfl) (by kernel_rfl) (by intro _ _ _ h; exact h) (Or.inl ⟨by rfl, (by intro w' hSw; (try dsimp only at hSw); go_simp; first | done | with_reducible rfl)⟩) (by assumption) ?_; (try simp only [Act.put, List.setIfInBounds_toArray, List.set_cons_zero, List.set_cons_succ]))
        obtain ⟨w3, hw3⟩ : ∃ w3, w3 = w2.setCell ⟨w.heap.size, 2, none⟩ (.int .u64 y2) := ⟨_, rfl⟩
        have J3 : Blk w3 w.heap.size 95 (fourL y0 y1 y2 x3) := by rw [hw3]; exact J2.set 2 _
        have G3 : But w.heap.size w2 w3 := by rw [hw3]; exact but_setCell _ _ _ _
        (refine wpH_one (i := 10) (by simp only [List.getElem?_toArray, List.getElem?_cons_succ, List.getElem?_cons_zero]; rfl) (by kernel_rfl) (by rfl) ?_; (refine wp_storef1 22 (.tmp 34) (.tmp 33) (by rfl) w.heap.size 2 (by rfl) (.int .u64 y2) (by rfl) (by rfl) (by simp [Value.oneCell']) 95 _ J2 (show 2 < 4 by omega) zeroU64'' ?_; rw [← hw3]; refine ⟨by have := J3.lt; omega, ?_⟩); (try simp only [Act.put, List.setIfInBounds_toArray, List.set_cons_zero, List.set_cons_succ]))
        refine wpH_done (by kernel_rfl) ?_ _
        have T3 := T2.but G3 (Ne.symm hne)
        have R3 := R2.but G3 (by have := R2.lt; omega)
        have B3 := B2.trans (G3.below B2.size (Nat.le_refl _))
        clear hHeld q0 q1 q2 hX hT hR hB J2 R2 T2 B2 G3 hw3 b2
        go_wp2_with fail
        exact ⟨⟨3, by omega, rfl, J3, T3, R3, B3⟩, by simp [intOf] <;> decide⟩
      · go_simp
        with_reducible refine (hM2 wo.drew q2).mono ?_
        rintro e w2 ⟨rfl, b2⟩
        refine ⟨(q2.below b2 q2.lt).lt, ?_⟩
        (try simp only [Act.put, List.setIfInBounds_toArray, List.set_cons_zero, List.set_cons_succ])
        have q3 := (q1.below b2 q1.lt).cell (i := 2) (v := .int .u64 x2) rfl
        (refine wpH_one (i := 2) (by simp only [List.getElem?_toArray, List.getElem?_cons_succ, List.getElem?_cons_zero]; rfl) (by kernel_rfl) (by rfl) ?_; (refine wp_loadf1 22 _ (by rfl) w.heap.size 2 (by rfl) (.int .u64 x2) q3 _ Tryd.underlying22 rfl ?_; refine ⟨(q2.below b2 q2.lt).lt, ?_⟩); (try simp only [Act.put, List.setIfInBounds_toArray, List.set_cons_zero, List.set_cons_succ]))
        have J2 := q1.below b2 q1.lt
        have R2 := q2.below b2 q2.lt
        have hH2 := R2.lt
        have T2 := hT.drew.below b2 hT.lt
        have B2 := hB.drew.trans (b2.mono hB.size)
        have z2 : wo.heap.size ≤ w2.heap.size := b2.size
        (refine wpH_take (i := 8) (v := _) (by simp only [List.getElem?_toArray, List.getElem?_cons_succ, List.getElem?_cons_zero]; rfl) (by kernel_rfl) (by kernel_rfl) (by kernel_rfl) (by intro _ _ _ h; exact h) (Or.inl ⟨by rfl, (by intro w' hSw; (try dsimp only at hSw); go_simp; first | done | with_reducible rfl)⟩) (by assumption) ?_; (try simp only [Act.put, List.setIfInBounds_toArray, List.set_cons_zero, List.set_cons_succ]))
        (refine wpH_take (i := 9) (v := _) (by simp only [List.getElem?_toArray, List.getElem?_cons_succ, List.getElem?_cons_zero]; rfl) (by kernel_rfl) (by kernel_rfl) (by kernel_rfl) (by intro _ _ _ h; exact h) (Or.inl ⟨by rfl, (by intro w' hSw; (try dsimp only at hSw); go_simp; first | done | with_reducible rfl)⟩) (by assumption) ?_; (try simp only [Act.put, List.setIfInBounds_toArray, List.set_cons_zero, List.set_cons_succ]))
        obtain ⟨w3, hw3⟩ : ∃ w3, w3 = w2.setCell ⟨w.heap.size, 2, none⟩ (.int .u64 y2) := ⟨_, rfl⟩
        have J3 : Blk w3 w.heap.size 95 (fourL y0 y1 y2 x3) := by rw [hw3]; exact J2.set 2 _
        have G3 : But w.heap.size w2 w3 := by rw [hw3]; exact but_setCell _ _ _ _
        (refine wpH_one (i := 10) (by simp only [List.getElem?_toArray, List.getElem?_cons_succ, List.getElem?_cons_zero]; rfl) (by kernel_rfl) (by rfl) ?_; (refine wp_storef1 22 (.tmp 34) (.tmp 33) (by rfl) w.heap.size 2 (by rfl) (.int .u64 y2) (by rfl) (by rfl) (by simp [Value.oneCell']) 95 _ J2 (show 2 < 4 by omega) zeroU64'' ?_; rw [← hw3]; refine ⟨by have := J3.lt; omega, ?_⟩); (try simp only [Act.put, List.setIfInBounds_toArray, List.set_cons_zero, List.set_cons_succ]))
        refine wpH_done (by kernel_rfl) ?_ _
        have T3 := T2.but G3 (Ne.symm hne)
        have R3 := R2.but G3 (by have := R2.lt; omega)
        have B3 := B2.trans (G3.below B2.size (Nat.le_refl _))
        clear hHeld q0 q1 q2 hX hT hR hB J2 R2 T2 B2 G3 hw3 b2
        go_wp2_with fail
        exact ⟨⟨3, by omega, rfl, J3, T3, R3, B3⟩, by simp [intOf] <;> decide⟩
    · skip
      have q1 := hX.drew
      have q2 := hR.drew
      have q0 := q1.cell (i := 3) (v := .int .u64 x3) rfl
      have hwk : IntKind.u64.wrap (IntKind.u64.wrap 3 + 1) = 4 := by decide
      go_wp2_with fail
      refine wp_region_heldL (fun y => 0 < y.heap.size) 11 (by kernel_rfl) rfl q2.lt fun hHeld => ?_
      simp only [List.replicate]
      (refine wpH_take (i := 0) (v := _) (by simp only [List.getElem?_toArray, List.getElem?_cons_succ, List.getElem?_cons_zero]; rfl) (by kernel_rfl) (by kernel_rfl) (by kernel_rfl) (by intro _ _ _ h; exact h) (Or.inl ⟨by rfl, (by intro w' hSw; (try dsimp only at hSw); go_simp; first | done | with_reducible rfl)⟩) (by assumption) ?_; (try simp only [Act.put, List.setIfInBounds_toArray, List.set_cons_zero, List.set_cons_succ]))
      (refine wpH_take (i := 1) (v := _) (by simp only [List.getElem?_toArray, List.getElem?_cons_succ, List.getElem?_cons_zero]; rfl) (by kernel_rfl) (by kernel_rfl) (by kernel_rfl) (by intro _ _ _ h; exact h) (Or.inl ⟨by rfl, (by intro w' hSw; (try dsimp only at hSw); go_simp; first | done | with_reducible rfl)⟩) (by assumption) ?_; (try simp only [Act.put, List.setIfInBounds_toArray, List.set_cons_zero, List.set_cons_succ]))
      (refine wpH_take (i := 3) (v := _) (by simp only [List.getElem?_toArray, List.getElem?_cons_succ, List.getElem?_cons_zero]; rfl) (by kernel_rfl) (by kernel_rfl) (by kernel_rfl) (by intro _ _ _ h; exact h) (Or.inl ⟨by rfl, (by intro w' hSw; (try dsimp only at hSw); go_simp; first | done | with_reducible rfl)⟩) (by assumption) ?_; (try simp only [Act.put, List.setIfInBounds_toArray, List.set_cons_zero, List.set_cons_succ]))
      (refine wpH_take (i := 4) (v := _) (by simp only [List.getElem?_toArray, List.getElem?_cons_succ, List.getElem?_cons_zero]; rfl) (by kernel_rfl) (by kernel_rfl) (by kernel_rfl) (by intro _ _ _ h; exact h) (Or.inl ⟨by rfl, (by intro w' hSw; (try dsimp only at hSw); go_simp; first | done | with_reducible rfl)⟩) (by assumption) ?_; (try simp only [Act.put, List.setIfInBounds_toArray, List.set_cons_zero, List.set_cons_succ]))
      (refine wpH_take (i := 5) (v := _) (by simp only [List.getElem?_toArray, List.getElem?_cons_succ, List.getElem?_cons_zero]; rfl) (by kernel_rfl) (by kernel_rfl) (by kernel_rfl) (by intro _ _ _ h; exact h) (Or.inl ⟨by rfl, (by intro w' hSw; (try dsimp only at hSw); go_simp; first | done | with_reducible rfl)⟩) (by assumption) ?_; (try simp only [Act.put, List.setIfInBounds_toArray, List.set_cons_zero, List.set_cons_succ]))
      (refine wpH_take (i := 6) (v := _) (by simp only [List.getElem?_toArray, List.getElem?_cons_succ, List.getElem?_cons_zero]; rfl) (by kernel_rfl) (by kernel_rfl) (by kernel_rfl) (by intro _ _ _ h; exact h) (Or.inl ⟨by rfl, (by intro w' hSw; (try dsimp only at hSw); go_simp; first | done | with_reducible rfl)⟩) (by assumption) ?_; (try simp only [Act.put, List.setIfInBounds_toArray, List.set_cons_zero, List.set_cons_succ]))
      refine wpH_two (i := 2) (j := 7) (by simp only [List.getElem?_toArray, List.getElem?_cons_succ, List.getElem?_cons_zero]; rfl) (by simp only [List.getElem?_toArray, List.getElem?_cons_succ, List.getElem?_cons_zero]; rfl) (by kernel_rfl) (by rfl) (by rfl) ?_ ?_
      · refine wp_loadf1 22 _ (by rfl) w.heap.size 3 (by rfl) (.int .u64 x3) q0 _ Tryd.underlying22 rfl ?_
        refine ⟨hHeld, ?_⟩
        (try simp only [Act.put, List.setIfInBounds_toArray, List.set_cons_zero, List.set_cons_succ])
        (refine wpH_one (i := 7) (by simp only [List.getElem?_toArray, List.getElem?_cons_succ, List.getElem?_cons_zero]; rfl) (by kernel_rfl) (by rfl) ?_; (go_simp; (with_reducible refine (hM3 wo.drew q2).mono ?_); rintro e w2 ⟨rfl, b2⟩; refine ⟨(q2.below b2 q2.lt).lt, ?_⟩); (try simp only [Act.put, List.setIfInBounds_toArray, List.set_cons_zero, List.set_cons_succ]))
        have J2 := q1.below b2 q1.lt
        have R2 := q2.below b2 q2.lt
        have hH2 := R2.lt
        have T2 := hT.drew.below b2 hT.lt
        have B2 := hB.drew.trans (b2.mono hB.size)
        have z2 : wo.heap.size ≤ w2.heap.size := b2.size
        (refine wpH_take (i := 8) (v := _) (by simp only [List.getElem?_toArray, List.getElem?_cons_succ, List.getElem?_cons_zero]; rfl) (by kernel_rfl) (by kernel_rfl) (by kernel_rfl) (by intro _ _ _ h; exact h) (Or.inl ⟨by rfl, (by intro w' hSw; (try dsimp only at hSw); go_simp; first | done | with_reducible rfl)⟩) (by assumption) ?_; (try simp only [Act.put, List.setIfInBounds_toArray, List.set_cons_zero, List.set_cons_succ]))
        (refine wpH_take (i := 9) (v := _) (by simp only [List.getElem?_toArray, List.getElem?_cons_succ, List.getElem?_cons_zero]; rfl) (by kernel_rfl) (by kernel_rfl) (by kernel_rfl) (by intro _ _ _ h; exact h) (Or.inl ⟨by rfl, (by intro w' hSw; (try dsimp only at hSw); go_simp; first | done | with_reducible rfl)⟩) (by assumption) ?_; (try simp only [Act.put, List.setIfInBounds_toArray, List.set_cons_zero, List.set_cons_succ]))
        obtain ⟨w3, hw3⟩ : ∃ w3, w3 = w2.setCell ⟨w.heap.size, 3, none⟩ (.int .u64 y3) := ⟨_, rfl⟩
        have J3 : Blk w3 w.heap.size 95 (fourL y0 y1 y2 y3) := by rw [hw3]; exact J2.set 3 _
        have G3 : But w.heap.size w2 w3 := by rw [hw3]; exact but_setCell _ _ _ _
        (refine wpH_one (i := 10) (by simp only [List.getElem?_toArray, List.getElem?_cons_succ, List.getElem?_cons_zero]; rfl) (by kernel_rfl) (by rfl) ?_; (refine wp_storef1 22 (.tmp 34) (.tmp 33) (by rfl) w.heap.size 3 (by rfl) (.int .u64 y3) (by rfl) (by rfl) (by simp [Value.oneCell']) 95 _ J2 (show 3 < 4 by omega) zeroU64'' ?_; rw [← hw3]; refine ⟨by have := J3.lt; omega, ?_⟩); (try simp only [Act.put, List.setIfInBounds_toArray, List.set_cons_zero, List.set_cons_succ]))
        refine wpH_done (by kernel_rfl) ?_ _
        have T3 := T2.but G3 (Ne.symm hne)
        have R3 := R2.but G3 (by have := R2.lt; omega)
        have B3 := B2.trans (G3.below B2.size (Nat.le_refl _))
        clear hHeld q0 q1 q2 hX hT hR hB J2 R2 T2 B2 G3 hw3 b2
        go_wp2_with fail
        exact ⟨⟨4, by omega, rfl, J3, T3, R3, B3⟩, by simp [intOf] <;> decide⟩
      · go_simp
        with_reducible refine (hM3 wo.drew q2).mono ?_
        rintro e w2 ⟨rfl, b2⟩
        refine ⟨(q2.below b2 q2.lt).lt, ?_⟩
        (try simp only [Act.put, List.setIfInBounds_toArray, List.set_cons_zero, List.set_cons_succ])
        have q3 := (q1.below b2 q1.lt).cell (i := 3) (v := .int .u64 x3) rfl
        (refine wpH_one (i := 2) (by simp only [List.getElem?_toArray, List.getElem?_cons_succ, List.getElem?_cons_zero]; rfl) (by kernel_rfl) (by rfl) ?_; (refine wp_loadf1 22 _ (by rfl) w.heap.size 3 (by rfl) (.int .u64 x3) q3 _ Tryd.underlying22 rfl ?_; refine ⟨(q2.below b2 q2.lt).lt, ?_⟩); (try simp only [Act.put, List.setIfInBounds_toArray, List.set_cons_zero, List.set_cons_succ]))
        have J2 := q1.below b2 q1.lt
        have R2 := q2.below b2 q2.lt
        have hH2 := R2.lt
        have T2 := hT.drew.below b2 hT.lt
        have B2 := hB.drew.trans (b2.mono hB.size)
        have z2 : wo.heap.size ≤ w2.heap.size := b2.size
        (refine wpH_take (i := 8) (v := _) (by simp only [List.getElem?_toArray, List.getElem?_cons_succ, List.getElem?_cons_zero]; rfl) (by kernel_rfl) (by kernel_rfl) (by kernel_rfl) (by intro _ _ _ h; exact h) (Or.inl ⟨by rfl, (by intro w' hSw; (try dsimp only at hSw); go_simp; first | done | with_reducible rfl)⟩) (by assumption) ?_; (try simp only [Act.put, List.setIfInBounds_toArray, List.set_cons_zero, List.set_cons_succ]))
        (refine wpH_take (i := 9) (v := _) (by simp only [List.getElem?_toArray, List.getElem?_cons_succ, List.getElem?_cons_zero]; rfl) (by kernel_rfl) (by kernel_rfl) (by kernel_rfl) (by intro _ _ _ h; exact h) (Or.inl ⟨by rfl, (by intro w' hSw; (try dsimp only at hSw); go_simp; first | done | with_reducible rfl)⟩) (by assumption) ?_; (try simp only [Act.put, List.setIfInBounds_toArray, List.set_cons_zero, List.set_cons_succ]))
        obtain ⟨w3, hw3⟩ : ∃ w3, w3 = w2.setCell ⟨w.heap.size, 3, none⟩ (.int .u64 y3) := ⟨_, rfl⟩
        have J3 : Blk w3 w.heap.size 95 (fourL y0 y1 y2 y3) := by rw [hw3]; exact J2.set 3 _
        have G3 : But w.heap.size w2 w3 := by rw [hw3]; exact but_setCell _ _ _ _
        (refine wpH_one (i := 10) (by simp only [List.getElem?_toArray, List.getElem?_cons_succ, List.getElem?_cons_zero]; rfl) (by kernel_rfl) (by rfl) ?_; (refine wp_storef1 22 (.tmp 34) (.tmp 33) (by rfl) w.heap.size 3 (by rfl) (.int .u64 y3) (by rfl) (by rfl) (by simp [Value.oneCell']) 95 _ J2 (show 3 < 4 by omega) zeroU64'' ?_; rw [← hw3]; refine ⟨by have := J3.lt; omega, ?_⟩); (try simp only [Act.put, List.setIfInBounds_toArray, List.set_cons_zero, List.set_cons_succ]))
        refine wpH_done (by kernel_rfl) ?_ _
        have T3 := T2.but G3 (Ne.symm hne)
        have R3 := R2.but G3 (by have := R2.lt; omega)
        have B3 := B2.trans (G3.below B2.size (Nat.le_refl _))
        clear hHeld q0 q1 q2 hX hT hR hB J2 R2 T2 B2 G3 hw3 b2
        go_wp2_with fail
        exact ⟨⟨4, by omega, rfl, J3, T3, R3, B3⟩, by simp [intOf] <;> decide⟩
    · go_wp2_with (first
        | (refine wpl_load (by rfl) 95 _ (by rfl) w.heap.size (by rfl) 95 (fourL y0 y1 y2 y3) hX _ Tryd.underlying95 rfl _ size4 (by rfl) ?_)
        | (refine wpl_store (by rfl) 95 _ _ (by rfl) bt (by rfl) _ (by rfl) (fourL y0 y1 y2 y3) rfl 95 _ hT (show (4 : Nat) = 4 from rfl) _ size4 (by rfl) (by simp [Value.oneCell']) ?_; intro w9 T9 s9 g9))
      refine bodyPost_ret (res_c Tryd.results46 (by rfl) T9 Tryd.underlying95 rfl size4 (show (4 : Nat) = 4 from rfl)) rfl ?_
      exact ⟨rfl, hB.trans (g9.below hB.size (by omega))⟩
end Go.Proofs.YtachhbbofemfdaaDoor
namespace Go.Proofs.YtachhbbofemfdaaDoor
open Go.RowKit
set_option linter.unusedSimpArgs false
set_option linter.unusedVariables false
set_option maxRecDepth 100000
set_option maxHeartbeats 1000000 in
theorem new_some (s k : Int) (w : World) (h1 : 1 ≤ k) (h8 : k ≤ 8) :
    Calls Tryd.prog 12 #[.int .u64 s, .int .i64 k] w fun e w' => e = .returned (.pointer (some ⟨w.heap.size, 0, none⟩)) ∧ Blk w' w.heap.size 84 (jarL s k 1) ∧ Below w.heap.size w w' := by
  have d1 : decide (k < 1) = false := decide_eq_false (by omega)
  have d2 : decide (8 < k) = false := decide_eq_false (by omega)
  clear h1 h8
  go_enter Tryd.func12, Tryd.ntmps12
  go_wp2_with (first | (refine wpl_box (by rfl) 84 _ (by rfl) _ (jarL s k 1) (by rfl) rfl ?_; intro w1 J1 s1 b1))
  go_ret
  exact ⟨rfl, J1, b1⟩
set_option maxHeartbeats 1000000 in
theorem new_none (s k : Int) (w : World) (h : ¬(1 ≤ k ∧ k ≤ 8)) :
    Calls Tryd.prog 12 #[.int .u64 s, .int .i64 k] w fun e w' => e = .returned (.pointer none) ∧ w = w' := by
  by_cases h1 : k < 1
  · have d1 : decide (k < 1) = true := decide_eq_true h1
    clear h1 h
    go_enter Tryd.func12, Tryd.ntmps12
    go_wp2
    go_ret
    exact ⟨rfl, rfl⟩
  · have d1 : decide (k < 1) = false := decide_eq_false h1
    have d2 : decide (8 < k) = true := decide_eq_true (by omega)
    clear h1 h
    go_enter Tryd.func12, Tryd.ntmps12
    go_wp2
    go_ret
    exact ⟨rfl, rfl⟩
set_option maxHeartbeats 1000000 in
theorem rot_nil (w : World) : Calls Tryd.prog 56 #[.pointer none] w fun e w' => e = .returned (.int .i64 1) ∧ w = w' := by
  go_enter Tryd.func56, Tryd.ntmps56
  go_wp2
  go_ret
  exact ⟨rfl, rfl⟩
set_option maxHeartbeats 1000000 in
theorem rot_ok (bj : Nat) (s k g : Int) (w : World) (hJ : Blk w bj 84 (jarL s k g)) (h0 : 0 ≤ g) (h1 : g < 2147483647) :
    Calls Tryd.prog 56 #[.pointer (some ⟨bj, 0, none⟩)] w fun e w' => e = .returned (.int .i64 0) ∧ Blk w' bj 84 (jarL s k (g + 1)) ∧ But bj w w' := by
  have d : decide (2147483647 ≤ g) = false := decide_eq_false (by omega)
  have e1 : IntKind.i64.wrap (g + 1) = g + 1 := by rw [IntKind.wrap_i64]; omega
  clear h0 h1
  go_enter Tryd.func56, Tryd.ntmps56
  go_wp2_with (first
    | (refine wpl_loadf (by rfl) 3 _ (by rfl) bj 2 (by rfl) _ _ hJ _ rfl _ Tryd.underlying3 rfl ?_)
    | (refine wpl_storeg (by rfl) 3 _ _ (by rfl) bj 2 (by rfl) (.int .i64 (g + 1)) (by rfl) (by rfl) (by simp [Value.oneCell']) _ _ (jarL s k (g + 1)) hJ (by simp) sizeI64' (by rfl) ?_; intro w1 J1 s1 g1))
  go_ret
  exact ⟨rfl, J1, g1⟩
set_option maxHeartbeats 1000000 in
theorem rnew_some (s k : Int) (w : World) (h1 : 1 ≤ k) (h8 : k ≤ 8) :
    Calls Tryd.prog 14 #[.int .u64 s, .int .i64 k] w fun e w' => e = .returned (.pointer (some ⟨w.heap.size, 0, none⟩)) ∧ Blk w' w.heap.size 89 (jarL s k 1) ∧ Below w.heap.size w w' := by
  have d1 : decide (k < 1) = false := decide_eq_false (by omega)
  have d2 : decide (8 < k) = false := decide_eq_false (by omega)
  clear h1 h8
  go_enter Tryd.func14, Tryd.ntmps14
  go_wp2_with (first | (refine wpl_box (by rfl) 89 _ (by rfl) _ (jarL s k 1) (by rfl) rfl ?_; intro w1 J1 s1 b1))
  go_ret
  exact ⟨rfl, J1, b1⟩
set_option maxHeartbeats 1000000 in
theorem rnew_none (s k : Int) (w : World) (h : ¬(1 ≤ k ∧ k ≤ 8)) :
    Calls Tryd.prog 14 #[.int .u64 s, .int .i64 k] w fun e w' => e = .returned (.pointer none) ∧ w = w' := by
  by_cases h1 : k < 1
  · have d1 : decide (k < 1) = true := decide_eq_true h1
    clear h1 h
    go_enter Tryd.func14, Tryd.ntmps14
    go_wp2
    go_ret
    exact ⟨rfl, rfl⟩
  · have d1 : decide (k < 1) = false := decide_eq_false h1
    have d2 : decide (8 < k) = true := decide_eq_true (by omega)
    clear h1 h
    go_enter Tryd.func14, Tryd.ntmps14
    go_wp2
    go_ret
    exact ⟨rfl, rfl⟩
set_option maxHeartbeats 1000000 in
theorem rrot_nil (w : World) : Calls Tryd.prog 57 #[.pointer none] w fun e w' => e = .returned (.int .i64 1) ∧ w = w' := by
  go_enter Tryd.func57, Tryd.ntmps57
  go_wp2
  go_ret
  exact ⟨rfl, rfl⟩
set_option maxHeartbeats 1000000 in
theorem rrot_ok (bj : Nat) (s k g : Int) (w : World) (hJ : Blk w bj 89 (jarL s k g)) (h0 : 0 ≤ g) (h1 : g < 2147483647) :
    Calls Tryd.prog 57 #[.pointer (some ⟨bj, 0, none⟩)] w fun e w' => e = .returned (.int .i64 0) ∧ Blk w' bj 89 (jarL s k (g + 1)) ∧ But bj w w' := by
  have d : (g == 2147483647) = false := by simp; omega
  have e1 : IntKind.i64.wrap (g + 1) = g + 1 := by rw [IntKind.wrap_i64]; omega
  clear h0 h1
  go_enter Tryd.func57, Tryd.ntmps57
  go_wp2_with (first
    | (refine wpl_loadf (by rfl) 3 _ (by rfl) bj 2 (by rfl) _ _ hJ _ rfl _ Tryd.underlying3 rfl ?_)
    | (refine wpl_storeg (by rfl) 3 _ _ (by rfl) bj 2 (by rfl) (.int .i64 (g + 1)) (by rfl) (by rfl) (by simp [Value.oneCell']) _ _ (jarL s k (g + 1)) hJ (by simp) sizeI64' (by rfl) ?_; intro w1 J1 s1 g1))
  go_ret
  exact ⟨rfl, J1, g1⟩
end Go.Proofs.YtachhbbofemfdaaDoor
namespace Go.Proofs.YtachhbbofemfdaaDoor
open Go.RowKit
set_option linter.unusedSimpArgs false
set_option linter.unusedVariables false
set_option maxRecDepth 100000
theorem Ow.drew {w : World} {lo c : Nat} {A : Option Addr} {l : List Int} (h : Ow w lo A c l) : Ow w.drew lo A c l := h
theorem p4 : (256 : Int) ^ 4 = 4294967296 := by decide
theorem p8 : (256 : Int) ^ 8 = 18446744073709551616 := by decide
/-- what of a cookie stands before the tag, behind j numbers -/
def sbB (g nonce y0 y1 y2 y3 : Int) : Nat → List Int
  | 0 => bytesB 4 g ++ bytesB 8 nonce
  | 1 => bytesB 4 g ++ bytesB 8 nonce ++ bytesB 8 y0
  | 2 => bytesB 4 g ++ bytesB 8 nonce ++ bytesB 8 y0 ++ bytesB 8 y1
  | 3 => bytesB 4 g ++ bytesB 8 nonce ++ bytesB 8 y0 ++ bytesB 8 y1 ++ bytesB 8 y2
  | _ => bytesB 4 g ++ bytesB 8 nonce ++ bytesB 8 y0 ++ bytesB 8 y1 ++ bytesB 8 y2 ++ bytesB 8 y3
theorem sbB_len (g nonce y0 y1 y2 y3 : Int) : (sbB g nonce y0 y1 y2 y3 0).length = 12 ∧ (sbB g nonce y0 y1 y2 y3 1).length = 20 ∧ (sbB g nonce y0 y1 y2 y3 2).length = 28 ∧ (sbB g nonce y0 y1 y2 y3 3).length = 36 ∧ (sbB g nonce y0 y1 y2 y3 4).length = 44 := by
  simp [sbB, bytesB_length]
/-- a cookie -/
def ckB (s g nonce c0 c1 s0 s1 : Int) : List Int :=
  sbB g nonce (xr c0 (padF s g nonce 0)) (xr c1 (padF s g nonce 1)) (xr s0 (padF s g nonce 2)) (xr s1 (padF s g nonce 3)) 4 ++
    bytesB 8 (jtag s g (sbB g nonce (xr c0 (padF s g nonce 0)) (xr c1 (padF s g nonce 1)) (xr s0 (padF s g nonce 2)) (xr s1 (padF s g nonce 3)) 4))
theorem ckB_len (s g nonce c0 c1 s0 s1 : Int) : (ckB s g nonce c0 c1 s0 s1).length = 52 := by
  unfold ckB
  rw [List.length_append, bytesB_length, (sbB_len _ _ _ _ _ _).2.2.2.2]
theorem gn_u64 {g : Int} (h : Gn g) : 0 ≤ g ∧ g < 18446744073709551616 := by obtain ⟨h0, h1⟩ := h; omega
open Go.RowKit
theorem app8 (A : Option Addr) (n c lo hi : Nat) (l : List Int) (x : Int) (w : World) (hn : l.length = n) (h : Bs w lo hi A l) (hh : hi ≤ w.heap.size) (hm : n ≤ 1000000) (hx : 0 ≤ x ∧ x < 18446744073709551616) :
    Calls Tryd.prog 45 #[.slice A n c, .int .u64 x, .int .i64 8] w fun e w' => ∃ A' c', e = .returned (.tuple #[.slice A' (n + 8) c', .int .i64 0]) ∧ Ow w' w.heap.size A' c' (l ++ bytesB 8 x) ∧ Below w.heap.size w w' :=
  (append_ok A n c lo hi l x 8 w hn h hh (by omega) (by omega) (by omega) (by omega) (by rw [p8]; omega)).mono fun e w' ⟨h1, h2, h3, h4⟩ => ⟨_, _, h1, h2, h4⟩
open Go.RowKit
theorem app4 (A : Option Addr) (n c lo hi : Nat) (l : List Int) (x : Int) (w : World) (hn : l.length = n) (h : Bs w lo hi A l) (hh : hi ≤ w.heap.size) (hm : n ≤ 1000000) (hx : 0 ≤ x ∧ x < 4294967296) :
    Calls Tryd.prog 45 #[.slice A n c, .int .u64 x, .int .i64 4] w fun e w' => ∃ A' c', e = .returned (.tuple #[.slice A' (n + 4) c', .int .i64 0]) ∧ Ow w' w.heap.size A' c' (l ++ bytesB 4 x) ∧ Below w.heap.size w w' :=
  (append_ok A n c lo hi l x 4 w hn h hh (by omega) (by omega) (by omega) (by omega) (by rw [p4]; omega)).mono fun e w' ⟨h1, h2, h3, h4⟩ => ⟨_, _, h1, h2, h4⟩
open Go.RowKit
theorem rapp8 (A : Option Addr) (n c lo hi : Nat) (l : List Int) (x : Int) (w : World) (hn : l.length = n) (h : Bs w lo hi A l) (hh : hi ≤ w.heap.size) (hm : n ≤ 1000000) (hx : 0 ≤ x ∧ x < 18446744073709551616) :
    Calls Tryd.prog 50 #[.slice A n c, .int .u64 x, .int .i64 8] w fun e w' => ∃ A' c', e = .returned (.tuple #[.slice A' (n + 8) c', .int .i64 0]) ∧ Ow w' w.heap.size A' c' (l ++ bytesB 8 x) ∧ Below w.heap.size w w' :=
  (rappend_ok A n c lo hi l x 8 w hn h hh (by omega) (by omega) (by omega) (by omega) (by rw [p8]; omega)).mono fun e w' ⟨A', c', h1, h2, h3, h4⟩ => ⟨A', c', h1, h2, h4⟩
open Go.RowKit
theorem rapp4 (A : Option Addr) (n c lo hi : Nat) (l : List Int) (x : Int) (w : World) (hn : l.length = n) (h : Bs w lo hi A l) (hh : hi ≤ w.heap.size) (hm : n ≤ 1000000) (hx : 0 ≤ x ∧ x < 4294967296) :
    Calls Tryd.prog 50 #[.slice A n c, .int .u64 x, .int .i64 4] w fun e w' => ∃ A' c', e = .returned (.tuple #[.slice A' (n + 4) c', .int .i64 0]) ∧ Ow w' w.heap.size A' c' (l ++ bytesB 4 x) ∧ Below w.heap.size w w' :=
  (rappend_ok A n c lo hi l x 4 w hn h hh (by omega) (by omega) (by omega) (by omega) (by rw [p4]; omega)).mono fun e w' ⟨A', c', h1, h2, h3, h4⟩ => ⟨A', c', h1, h2, h4⟩
theorem at4 (a b c d : Int) : (∀ W, (Instr.index 95 (fourV a b c d) (.int .i64 0)).run Tryd.prog W = .ok (.int .u64 a) W) ∧ (∀ W, (Instr.index 95 (fourV a b c d) (.int .i64 1)).run Tryd.prog W = .ok (.int .u64 b) W) ∧ (∀ W, (Instr.index 95 (fourV a b c d) (.int .i64 2)).run Tryd.prog W = .ok (.int .u64 c) W) ∧ (∀ W, (Instr.index 95 (fourV a b c d) (.int .i64 3)).run Tryd.prog W = .ok (.int .u64 d) W) :=
  ⟨fun _ => by kernel_rfl, fun _ => by kernel_rfl, fun _ => by kernel_rfl, fun _ => by kernel_rfl⟩
set_option maxHeartbeats 1000000 in
theorem seal_nil (c0 c1 s0 s1 nonce : Int) (w : World) : Calls Tryd.prog 19 #[.pointer none, keyV c0 c1, keyV s0 s1, .int .u64 nonce] w fun e w' => e = .returned (.slice none 0 0) ∧ Below w.heap.size w w' := by
  go_enter Tryd.func19, Tryd.ntmps19
  go_wp2_with (first
    | ((refine wpl_box (by rfl) 29 _ (by rfl) _ (keyL c0 c1) (by rfl) rfl ?_; intro w1 P1 t1 b1))
    | ((refine wpl_box (by rfl) 29 _ (by rfl) _ (keyL s0 s1) (by rfl) rfl ?_; intro w2 Q2 t2 b2)))
  go_ret
  exact ⟨rfl, b1.trans (b2.mono (by omega))⟩
open Go.RowKit
set_option maxHeartbeats 16000000 in
theorem seal_any (bj : Nat) (s k' g c0 c1 s0 s1 nonce : Int) (w : World) (hs : U64 s) (hg : Gn g) (hn : U64 nonce) (hc0 : U64 c0) (hc1 : U64 c1) (hs0 : U64 s0) (hs1 : U64 s1) (hJ : Blk w bj 84 (jarL s k' g)) (hR : Rnd w) :
    Calls Tryd.prog 19 #[.pointer (some ⟨bj, 0, none⟩), keyV c0 c1, keyV s0 s1, .int .u64 nonce] w fun e w' => ∃ A c, e = .returned (.slice A 52 c) ∧ Ow w' w.heap.size A c (ckB s g nonce c0 c1 s0 s1) ∧ Below w.heap.size w w' := by
  have hbj := hJ.lt
  have hw0 := hR.lt
  have hg5 := (two_u64 hg).2.2.2.2
  have hgu : 0 ≤ g ∧ g < 4294967296 := by obtain ⟨h0, h1⟩ := hg; omega
  have hnu : 0 ≤ nonce ∧ nonce < 18446744073709551616 := by obtain ⟨h0, h1⟩ := hn; omega
  have hMk := fun W hJ hr => mask_any bj s k' g g nonce c0 c1 s0 s1 W hs hg hn hJ hr
  have hT := fun (A : Option Addr) (c : Nat) (l : List Int) (W : World) hJ hr hl hB hc hcc => jtag_any bj s k' g g A 44 c l W hs hg hJ hr hl hB (by omega) hc hcc
  have hE : ckB s g nonce c0 c1 s0 s1 = sbB g nonce (xr c0 (padF s g nonce 0)) (xr c1 (padF s g nonce 1)) (xr s0 (padF s g nonce 2)) (xr s1 (padF s g nonce 3)) 4 ++
    bytesB 8 (jtag s g (sbB g nonce (xr c0 (padF s g nonce 0)) (xr c1 (padF s g nonce 1)) (xr s0 (padF s g nonce 2)) (xr s1 (padF s g nonce 3)) 4)) := rfl
  rw [hE]
  clear hE
  have hy0 := xr_u64 hc0 (padF_u64 s g nonce 0)
  have hy1 := xr_u64 hc1 (padF_u64 s g nonce 1)
  have hy2 := xr_u64 hs0 (padF_u64 s g nonce 2)
  have hy3 := xr_u64 hs1 (padF_u64 s g nonce 3)
  generalize xr c0 (padF s g nonce 0) = y0 at hMk hy0 ⊢
  generalize xr c1 (padF s g nonce 1) = y1 at hMk hy1 ⊢
  generalize xr s0 (padF s g nonce 2) = y2 at hMk hy2 ⊢
  generalize xr s1 (padF s g nonce 3) = y3 at hMk hy3 ⊢
  obtain ⟨l0, l1, l2, l3, l4⟩ := sbB_len g nonce y0 y1 y2 y3
  have HL := Lib.hid (And.intro l0 (And.intro l1 (And.intro l2 (And.intro l3 l4))))
  clear l0 l1 l2 l3 l4
  have hT' := fun (A : Option Addr) (c : Nat) (W : World) hJ hr hB hc hcc => hT A c (sbB g nonce y0 y1 y2 y3 4) W hJ hr HL.out.2.2.2.2 hB hc hcc
  have ht : U64 (jtag s g (sbB g nonce y0 y1 y2 y3 4)) := jtag_u64 _ _ _
  generalize jtag s g (sbB g nonce y0 y1 y2 y3 4) = tg at hT' ht ⊢
  clear hT
  obtain ⟨i0, i1, i2, i3⟩ := at4 y0 y1 y2 y3
  clear hs hn hc0 hc1 hs0 hs1
  go_enter Tryd.func19, Tryd.ntmps19
  go_wp2_with (first
    | ((refine wpl_box (by rfl) 29 _ (by rfl) _ (keyL c0 c1) (by rfl) rfl ?_; intro w1 P1 t1 b1); (have J1 := hJ.below b1 hbj); (have R1 := hR.below b1 hw0))
    | ((refine wpl_box (by rfl) 29 _ (by rfl) _ (keyL s0 s1) (by rfl) rfl ?_; intro w2 Q2 t2 b2); (have P2 := P1.below b2 (by omega)); (have J2 := J1.below b2 (by omega)); (have R2 := R1.below b2 R1.lt))
    | (refine wpl_loadf (by rfl) 3 _ (by rfl) bj 2 (by rfl) _ _ J2 _ rfl _ Tryd.underlying3 rfl ?_)
    | (go_at_call 45; ((with_reducible refine (app4 none 0 0 0 0 [] g _ rfl Bs.nil (Nat.zero_le _) (by omega) hgu).mono ?_); rintro e w3 ⟨A3, c3, rfl, O3, b3⟩)))
  rw [List.nil_append] at O3
  have P3 := P2.below b3 (by omega)
  have Q3 := Q2.below b3 (by omega)
  have J3 := J2.below b3 (by omega)
  have R3 := R2.below b3 R2.lt
  have B3 := (b1.trans (b2.mono (by omega))).trans (b3.mono (by omega))
  have z3 := b3.size
  clear P1 P2 Q2 J1 J2 R1 R2 b1 b2 b3 hJ hR
  have hE := app8 A3 4 c3 _ _ (bytesB 4 g) nonce w3 (bytesB_length _ _) O3.bs (Nat.le_refl _) (by omega) hnu
  go_wp2_with fail
  with_reducible refine hE.mono ?_
  rintro e w4 ⟨A4, c4, rfl, O4, b4⟩
  have O4' : Ow w4 w3.heap.size A4 c4 (sbB g nonce y0 y1 y2 y3 0) := O4
  have P4 := P3.below b4 (by omega)
  have Q4 := Q3.below b4 (by omega)
  have J4 := J3.below b4 (by omega)
  have R4 := R3.below b4 R3.lt
  have B4 := B3.trans (b4.mono B3.size)
  have z4 := b4.size
  clear P3 Q3 J3 R3 B3 b4 O3 O4 hE
  go_wp2_with fail
  have q0 := P4.drew.cell (i := 0) (v := .int .u64 c0) rfl
  have q1 := P4.drew.cell (i := 1) (v := .int .u64 c1) rfl
  have q2 := Q4.drew.cell (i := 0) (v := .int .u64 s0) rfl
  have q3 := Q4.drew.cell (i := 1) (v := .int .u64 s1) rfl
  have q4 := J4.drew.cell (i := 2) (v := .int .i64 g) rfl
  refine wp_region_heldL (fun y => y.cell? ⟨w.heap.size, 0, none⟩ = some (.int .u64 c0) ∧ y.cell? ⟨w.heap.size, 1, none⟩ = some (.int .u64 c1) ∧ y.cell? ⟨w1.heap.size, 0, none⟩ = some (.int .u64 s0) ∧ y.cell? ⟨w1.heap.size, 1, none⟩ = some (.int .u64 s1) ∧ y.cell? ⟨bj, 2, none⟩ = some (.int .i64 g)) 17 (by kernel_rfl) rfl ⟨q0, q1, q2, q3, q4⟩ fun hHeld => ?_
  simp only [List.replicate]
  (refine wpH_take (i := 0) (v := _) (by simp only [List.getElem?_toArray, List.getElem?_cons_succ, List.getElem?_cons_zero]; rfl) (by kernel_rfl) (by kernel_rfl) (by kernel_rfl) (by intro _ _ _ h; exact h) (Or.inl ⟨by rfl, (by intro w' hSw; (try dsimp only at hSw); go_simp; first | done | with_reducible rfl)⟩) (by assumption) ?_; (try simp only [Act.put, List.setIfInBounds_toArray, List.set_cons_zero, List.set_cons_succ]))
  (refine wpH_take (i := 1) (v := _) (by simp only [List.getElem?_toArray, List.getElem?_cons_succ, List.getElem?_cons_zero]; rfl) (by kernel_rfl) (by kernel_rfl) (by kernel_rfl) (by intro _ _ _ h; exact h) (Or.inl ⟨by rfl, (by intro w' hSw; (try dsimp only at hSw); go_simp; first | done | with_reducible rfl)⟩) (by assumption) ?_; (try simp only [Act.put, List.setIfInBounds_toArray, List.set_cons_zero, List.set_cons_succ]))
  (refine wpH_take (i := 2) (v := _) (by simp only [List.getElem?_toArray, List.getElem?_cons_succ, List.getElem?_cons_zero]; rfl) (by kernel_rfl) (by kernel_rfl) (by kernel_rfl) (by intro _ _ _ h; exact h) (Or.inl ⟨by rfl, (by intro w' hSw; (try dsimp only at hSw); go_simp; first | done | with_reducible rfl)⟩) (by assumption) ?_; (try simp only [Act.put, List.setIfInBounds_toArray, List.set_cons_zero, List.set_cons_succ]))
  (refine wpH_take (i := 3) (v := _) (by simp only [List.getElem?_toArray, List.getElem?_cons_succ, List.getElem?_cons_zero]; rfl) (by kernel_rfl) (by kernel_rfl) (by kernel_rfl) (by intro _ _ _ h; exact h) (Or.inl ⟨by rfl, (by intro w' hSw; (try dsimp only at hSw); go_simp; first | done | with_reducible rfl)⟩) (by assumption) ?_; (try simp only [Act.put, List.setIfInBounds_toArray, List.set_cons_zero, List.set_cons_succ]))
  (refine wpH_take (i := 4) (v := _) (by simp only [List.getElem?_toArray, List.getElem?_cons_succ, List.getElem?_cons_zero]; rfl) (by kernel_rfl) (by kernel_rfl) (by kernel_rfl) (by intro _ _ _ h; exact h) (Or.inl ⟨by rfl, (by intro w' hSw; (try dsimp only at hSw); go_simp; first | done | with_reducible rfl)⟩) (by assumption) ?_; (try simp only [Act.put, List.setIfInBounds_toArray, List.set_cons_zero, List.set_cons_succ]))
  (refine wpH_take (i := 5) (v := _) (by simp only [List.getElem?_toArray, List.getElem?_cons_succ, List.getElem?_cons_zero]; rfl) (by kernel_rfl) (by kernel_rfl) (by kernel_rfl) (by intro _ _ _ h; exact h) (Or.inl ⟨by rfl, (by intro w' hSw; (try dsimp only at hSw); go_simp; first | done | with_reducible rfl)⟩) (by assumption) ?_; (try simp only [Act.put, List.setIfInBounds_toArray, List.set_cons_zero, List.set_cons_succ]))
  (refine wpH_take (i := 6) (v := _) (by simp only [List.getElem?_toArray, List.getElem?_cons_succ, List.getElem?_cons_zero]; rfl) (by kernel_rfl) (by kernel_rfl) (by kernel_rfl) (by intro _ _ _ h; exact h) (Or.inl ⟨by rfl, (by intro w' hSw; (try dsimp only at hSw); go_simp; first | done | with_reducible rfl)⟩) (by assumption) ?_; (try simp only [Act.put, List.setIfInBounds_toArray, List.set_cons_zero, List.set_cons_succ]))
  (refine wpH_take (i := 7) (v := _) (by simp only [List.getElem?_toArray, List.getElem?_cons_succ, List.getElem?_cons_zero]; rfl) (by kernel_rfl) (by kernel_rfl) (by kernel_rfl) (by intro _ _ _ h; exact h) (Or.inl ⟨by rfl, (by intro w' hSw; (try dsimp only at hSw); go_simp; first | done | with_reducible rfl)⟩) (by assumption) ?_; (try simp only [Act.put, List.setIfInBounds_toArray, List.set_cons_zero, List.set_cons_succ]))
  (refine wpH_take (i := 8) (v := _) (by simp only [List.getElem?_toArray, List.getElem?_cons_succ, List.getElem?_cons_zero]; rfl) (by kernel_rfl) (by kernel_rfl) (by kernel_rfl) (by intro _ _ _ h; exact h) (Or.inl ⟨by rfl, (by intro w' hSw; (try dsimp only at hSw); go_simp; first | done | with_reducible rfl)⟩) (by assumption) ?_; (try simp only [Act.put, List.setIfInBounds_toArray, List.set_cons_zero, List.set_cons_succ]))
  (refine wpH_take (i := 9) (v := _) (by simp only [List.getElem?_toArray, List.getElem?_cons_succ, List.getElem?_cons_zero]; rfl) (by kernel_rfl) (by kernel_rfl) (by kernel_rfl) (by intro _ _ _ h; exact h) (Or.inl ⟨by rfl, (by intro w' hSw; (try dsimp only at hSw); go_simp; first | done | with_reducible rfl)⟩) (by assumption) ?_; (try simp only [Act.put, List.setIfInBounds_toArray, List.set_cons_zero, List.set_cons_succ]))
  (refine wpH_take (i := 10) (v := _) (by simp only [List.getElem?_toArray, List.getElem?_cons_succ, List.getElem?_cons_zero]; rfl) (by kernel_rfl) (by kernel_rfl) (by kernel_rfl) (by intro _ _ _ h; exact h) (Or.inl ⟨by rfl, (by intro w' hSw; (try dsimp only at hSw); go_simp; first | done | with_reducible rfl)⟩) (by assumption) ?_; (try simp only [Act.put, List.setIfInBounds_toArray, List.set_cons_zero, List.set_cons_succ]))
  (refine wpH_take (i := 11) (v := _) (by simp only [List.getElem?_toArray, List.getElem?_cons_succ, List.getElem?_cons_zero]; rfl) (by kernel_rfl) (by kernel_rfl) (by kernel_rfl) (by intro _ _ _ h; exact h) (Or.inl ⟨by rfl, (by intro w' hSw; (try dsimp only at hSw); go_simp; first | done | with_reducible rfl)⟩) (by assumption) ?_; (try simp only [Act.put, List.setIfInBounds_toArray, List.set_cons_zero, List.set_cons_succ]))
  (refine wpH_take (i := 12) (v := _) (by simp only [List.getElem?_toArray, List.getElem?_cons_succ, List.getElem?_cons_zero]; rfl) (by kernel_rfl) (by kernel_rfl) (by kernel_rfl) (by intro _ _ _ h; exact h) (Or.inl ⟨by rfl, (by intro w' hSw; (try dsimp only at hSw); go_simp; first | done | with_reducible rfl)⟩) (by assumption) ?_; (try simp only [Act.put, List.setIfInBounds_toArray, List.set_cons_zero, List.set_cons_succ]))
  (refine wpH_take (i := 13) (v := _) (by simp only [List.getElem?_toArray, List.getElem?_cons_succ, List.getElem?_cons_zero]; rfl) (by kernel_rfl) (by kernel_rfl) (by kernel_rfl) (by intro _ _ _ h; exact h) (Or.inl ⟨by rfl, (by intro w' hSw; (try dsimp only at hSw); go_simp; first | done | with_reducible rfl)⟩) (by assumption) ?_; (try simp only [Act.put, List.setIfInBounds_toArray, List.set_cons_zero, List.set_cons_succ]))
  (refine wpH_take (i := 14) (v := _) (by simp only [List.getElem?_toArray, List.getElem?_cons_succ, List.getElem?_cons_zero]; rfl) (by kernel_rfl) (by kernel_rfl) (by kernel_rfl) (by intro _ _ _ h; exact h) (Or.inl ⟨by rfl, (by intro w' hSw; (try dsimp only at hSw); go_simp; first | done | with_reducible rfl)⟩) (by assumption) ?_; (try simp only [Act.put, List.setIfInBounds_toArray, List.set_cons_zero, List.set_cons_succ]))
  (refine wpH_take (i := 16) (v := _) (by simp only [List.getElem?_toArray, List.getElem?_cons_succ, List.getElem?_cons_zero]; rfl) (by kernel_rfl) (by kernel_rfl) (by kernel_rfl) (by intro _ _ _ h; exact h) (Or.inl ⟨by rfl, (by intro w' hSw; (try dsimp only at hSw); go_simp; first | done | with_reducible rfl)⟩) (by assumption) ?_; (try simp only [Act.put, List.setIfInBounds_toArray, List.set_cons_zero, List.set_cons_succ]))
  (refine wpH_one (i := 15) (by simp only [List.getElem?_toArray, List.getElem?_cons_succ, List.getElem?_cons_zero]; rfl) (by kernel_rfl) (by rfl) ?_; (go_simp; (with_reducible refine (hMk w4.drew J4.drew R4.drew).mono ?_); rintro e w5 ⟨rfl, b5⟩; refine ⟨⟨(P4.drew.below b5 P4.lt).cell rfl, (P4.drew.below b5 P4.lt).cell rfl, (Q4.drew.below b5 Q4.lt).cell rfl, (Q4.drew.below b5 Q4.lt).cell rfl, (J4.drew.below b5 J4.lt).cell rfl⟩, ?_⟩); (try simp only [Act.put, List.setIfInBounds_toArray, List.set_cons_zero, List.set_cons_succ]))
  refine wpH_done (by kernel_rfl) ?_ _
  have J5 := J4.drew.below b5 J4.lt
  have R5 := R4.drew.below b5 R4.lt
  have O5 := O4'.drew.below b5 (Nat.le_refl _)
  have B5 := B4.drew.trans (b5.mono B4.size)
  have z5 : w4.heap.size ≤ w5.heap.size := b5.size
  clear hHeld q0 q1 q2 q3 q4 P4 Q4 J4 R4 O4' B4 b5 hMk
  have O5' := (O5.wide (lo' := w.heap.size) (by omega))
  clear O5
  go_wp2_with fail
  go_loopw [9, 46] (fun bv i wr => ∃ k : Nat, k ≤ 4 ∧ i = .int .i64 k ∧ (∃ A c N, bv = .slice A N c ∧ N = 12 + 8 * k ∧ Ow wr w.heap.size A c (sbB g nonce y0 y1 y2 y3 k)) ∧ Blk wr bj 84 (jarL s k' g) ∧ Rnd wr ∧ Below w.heap.size w wr) (fun _ i _ => 4 - (intOf i).toNat)
  case atStart => exact ⟨0, by omega, rfl, ⟨A4, c4, 12, rfl, rfl, O5'⟩, J5, R5, B5⟩
  case round =>
    obtain ⟨k, hk, rfl, ⟨A, c, N, rfl, hN, hO⟩, hJ, hR, hB⟩ := hrel
    obtain ⟨wo, rfl⟩ : ∃ wo : World, wo = wr := ⟨wr, rfl⟩
    have zo := hB.size
    clear J5 R5 B5 O5'
    have : k = 0 ∨ k = 1 ∨ k = 2 ∨ k = 3 ∨ k = 4 := by omega
    rcases this with rfl | rfl | rfl | rfl | rfl
    · skip
      obtain rfl : N = 12 := hN
      have hE := app8 A 12 c _ _ (sbB g nonce y0 y1 y2 y3 0) y0 wo HL.out.1 hO.bs (Nat.le_refl _) (by omega) (by obtain ⟨h0, h1⟩ := hy0; omega)
      go_wp2_with fail
      with_reducible refine hE.mono ?_
      rintro e w6 ⟨A6, c6, rfl, O6, b6⟩
      clear hE
      go_wp2_with fail
      exact ⟨⟨1, by omega, rfl, ⟨A6, c6, _, rfl, rfl, O6.wide zo⟩, hJ.below b6 hJ.lt, hR.below b6 hR.lt, hB.trans (b6.mono zo)⟩, by simp [intOf] <;> decide⟩
    · skip
      obtain rfl : N = 20 := hN
      have hE := app8 A 20 c _ _ (sbB g nonce y0 y1 y2 y3 1) y1 wo HL.out.2.1 hO.bs (Nat.le_refl _) (by omega) (by obtain ⟨h0, h1⟩ := hy1; omega)
      go_wp2_with fail
      with_reducible refine hE.mono ?_
      rintro e w6 ⟨A6, c6, rfl, O6, b6⟩
      clear hE
      go_wp2_with fail
      exact ⟨⟨2, by omega, rfl, ⟨A6, c6, _, rfl, rfl, O6.wide zo⟩, hJ.below b6 hJ.lt, hR.below b6 hR.lt, hB.trans (b6.mono zo)⟩, by simp [intOf] <;> decide⟩
    · skip
      obtain rfl : N = 28 := hN
      have hE := app8 A 28 c _ _ (sbB g nonce y0 y1 y2 y3 2) y2 wo HL.out.2.2.1 hO.bs (Nat.le_refl _) (by omega) (by obtain ⟨h0, h1⟩ := hy2; omega)
      go_wp2_with fail
      with_reducible refine hE.mono ?_
      rintro e w6 ⟨A6, c6, rfl, O6, b6⟩
      clear hE
      go_wp2_with fail
      exact ⟨⟨3, by omega, rfl, ⟨A6, c6, _, rfl, rfl, O6.wide zo⟩, hJ.below b6 hJ.lt, hR.below b6 hR.lt, hB.trans (b6.mono zo)⟩, by simp [intOf] <;> decide⟩
    · skip
      obtain rfl : N = 36 := hN
      have hE := app8 A 36 c _ _ (sbB g nonce y0 y1 y2 y3 3) y3 wo HL.out.2.2.2.1 hO.bs (Nat.le_refl _) (by omega) (by obtain ⟨h0, h1⟩ := hy3; omega)
      go_wp2_with fail
      with_reducible refine hE.mono ?_
      rintro e w6 ⟨A6, c6, rfl, O6, b6⟩
      clear hE
      go_wp2_with fail
      exact ⟨⟨4, by omega, rfl, ⟨A6, c6, _, rfl, rfl, O6.wide zo⟩, hJ.below b6 hJ.lt, hR.below b6 hR.lt, hB.trans (b6.mono zo)⟩, by simp [intOf] <;> decide⟩
    · obtain rfl : N = 44 := hN
      have hcl := hO.cap_le
      have hcm := hO.cap_max
      rw [HL.out.2.2.2.2] at hcl
      have hE := hT' A c wo hJ hR (hO.bs.wide (Nat.zero_le _) (Nat.le_refl _)) hcl hcm
      go_wp2_with (first | (refine wpl_loadf (by rfl) 3 _ (by rfl) bj 2 (by rfl) _ _ hJ _ rfl _ Tryd.underlying3 rfl ?_))
      with_reducible refine hE.mono ?_
      rintro e w6 ⟨rfl, b6⟩
      have O6 := hO.below b6 (Nat.le_refl _)
      have B6 := hB.trans (b6.mono zo)
      have hE2 := app8 A 44 c _ _ _ tg w6 HL.out.2.2.2.2 O6.bs (Nat.le_refl _) (by omega) (by obtain ⟨h0, h1⟩ := ht; omega)
      clear hE hO hJ hR hB b6
      go_wp2_with fail
      with_reducible refine hE2.mono ?_
      rintro e w7 ⟨A7, c7, rfl, O7, b7⟩
      go_wp2_with fail
      go_ret
      exact ⟨A7, c7, rfl, O7.wide B6.size, B6.trans (b7.mono B6.size)⟩
end Go.Proofs.YtachhbbofemfdaaDoor
