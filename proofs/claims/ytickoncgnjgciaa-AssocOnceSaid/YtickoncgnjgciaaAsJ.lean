/- Associations: Counts; the calls of the chapter's example. -/
import Derived.Test.YtickoncgnjgciaaAsF
import Derived.Test.YtickoncgnjgciaaOwn
namespace Go.Proofs.Ytickoncgnjgciaa
open Go.RowKit
set_option linter.unusedSimpArgs false
set_option linter.unusedVariables false
abbrev ctL (c0 c1 c2 c3 c4 c5 c6 c7 : Int) : List Value := [.int .i64 c0, .int .i64 c1, .int .i64 c2, .int .i64 c3, .int .i64 c4, .int .i64 c5, .int .i64 c6, .int .i64 c7]
/-- a row of cells at the front of a block -/
def Row (w : World) (b : Nat) (xs : List Value) : Prop := ∀ k, k < xs.length → w.cell? ⟨b, k, none⟩ = xs[k]?
theorem Row.below {w w' : World} {b B : Nat} {xs : List Value} (h : Row w b xs) (hb : Below B w w') (hlt : b < B) : Row w' b xs := fun k hk => (hb.cell (p := ⟨b, k, none⟩) hlt).trans (h k hk)
theorem infoI64 : (Try.prog.info? 3).map (fun i => (i.zero, i.size, i.bytes)) = some (some (.int .i64 0), 1, 8) := by kernel_rfl
theorem cells_from {w : World} {b o : Nat} {t : TypeId} {cs xs : List Value} (h : Blk w b t cs) (hx : (cs.drop o).take xs.length = xs) : ∀ j u, xs[j]? = some u → w.cell? ((⟨b, o, none⟩ : Addr).add j) = some u := fun j u hu => by
  rw [ofAdd]
  exact h.mid o xs hx j u hu
set_option maxHeartbeats 1000000 in
theorem counts_any (g : Nat) (ver t1 nc : Int) (pd : Bool) (lx c0 c1 c2 c3 c4 c5 c6 c7 : Int) (w : World) (H : Blk w g 57 (asL ver t1 nc pd lx c0 c1 c2 c3 c4 c5 c6 c7)) :
    Calls Try.prog 16 #[.pointer (some ⟨g, 0, none⟩)] w fun e w' => ∃ b cp, e = .returned (.slice (some ⟨b, 0, none⟩) 8 cp) ∧ Row w' b (ctL c0 c1 c2 c3 c4 c5 c6 c7) ∧ w.heap.size ≤ b ∧ b < w'.heap.size ∧ 8 ≤ cp ∧ Below w.heap.size w w' := by
  have hown : w.ownsRow w.heap.size 3 1 (.slice none 0 0) 0 [] := World.ownsRow_nil _ _ _ _
  go_enter Try.func16, Try.ntmps16
  go_wp2_with (first | (refine wpl_append (by rfl) _ _ 42 (by rfl) 3 (.int .i64 0) 1 8 Try.underlying42 infoI64 rfl (by omega) (.slice none 0 0) 0 [] w.heap.size (by rfl) hown ⟨g, 5, none⟩ 8 8 (by rfl) (ctL c0 c1 c2 c3 c4 c5 c6 c7) rfl (cells_from H rfl) (by simp [Value.oneCell']) (by omega) (by omega) (Nat.le_refl _) ?_; intro v' w1 ho b1 _))
  obtain ⟨b, cp, rfl, h1, h2, h3, h4, h5⟩ := own_form ho (by omega)
  go_ret
  exact ⟨b, cp, rfl, fun k hk => h5 k (by simpa using hk), h1, h2, h3, b1⟩
set_option maxHeartbeats 1000000 in
theorem rcounts_any (g : Nat) (ver : Int) (sn pd : Bool) (t1 nc lx c0 c1 c2 c3 c4 c5 c6 c7 : Int) (w : World) (H : Blk w g 59 (raL ver sn pd t1 nc lx c0 c1 c2 c3 c4 c5 c6 c7)) :
    Calls Try.prog 17 #[.pointer (some ⟨g, 0, none⟩)] w fun e w' => ∃ b cp, e = .returned (.slice (some ⟨b, 0, none⟩) 8 cp) ∧ Row w' b (ctL c0 c1 c2 c3 c4 c5 c6 c7) ∧ w.heap.size ≤ b ∧ b < w'.heap.size ∧ 8 ≤ cp ∧ Below w.heap.size w w' := by
  have hown : (w.alloc (.cells #[] 3)).ownsRow w.heap.size 3 1 (.slice (some ⟨w.heap.size, 0, none⟩) 0 0) 0 [] := World.ownsRow_made w #[] 0 (Nat.le_refl _) (by unfold maxLen; omega) (by simp)
  have H1 := H.old (o := .cells #[] 3)
  go_enter Try.func17, Try.ntmps17
  go_wp2_with (first | (refine wpl_append (by rfl) _ _ 42 (by rfl) 3 (.int .i64 0) 1 8 Try.underlying42 infoI64 rfl (by omega) (.slice (some ⟨w.heap.size, 0, none⟩) 0 0) 0 [] w.heap.size (by rfl) hown ⟨g, 6, none⟩ 8 8 (by rfl) (ctL c0 c1 c2 c3 c4 c5 c6 c7) rfl (cells_from H1 rfl) (by simp [Value.oneCell']) (by omega) (by omega) (by simp) ?_; intro v' w1 ho b1 _))
  obtain ⟨b, cp, rfl, h1, h2, h3, h4, h5⟩ := own_form ho (by omega)
  go_ret
  exact ⟨b, cp, rfl, fun k hk => h5 k (by simpa using hk), h1, h2, h3, ((Below.refl _ w).alloc (Nat.le_refl _) _).trans b1⟩
abbrev X1 : Int := 16750372454400006442
abbrev X2 : Int := 16750372454400006871
theorem X1_of : ofN 3900000000000001500 = X1 := by decide +kernel
theorem X2_of : ofN 3900000000000001600 = X2 := by decide +kernel
theorem exR1 : rfK (nchk 0 4 4 1 0 0) 4 3000 77 1000 true 78 X2 0 = 2 := by decide +kernel
theorem exR2 : rfK (nchk 0 4 4 1 0 0) 4 999 77 1000 true 77 X2 0 = 0 := by decide +kernel
theorem exR3 : rfK (nchk 0 4 4 1 0 0) 4 3000 77 1000 true 77 X2 0 = 9 := by decide +kernel
theorem exR4 : rfK (nchk 0 4 4 1 0 0) 4 3000 77 1000 false 77 X2 X2 = 1 := by decide +kernel
theorem exA3 : acK 1 0 0 X1 X2 3000 = 7 := by decide +kernel
theorem exI1 : insV X1 3000 = 1500 := by decide +kernel
theorem exI2 : insV X2 3000 = 1600 := by decide +kernel
theorem exS : ksS 1 0 = ⟨#[]⟩ := by decide +kernel
theorem cb0 : CB 0 := by decide
theorem cb1 : CB 1 := by decide
theorem ex_r1 (g : Nat) (w : World) (H : Blk w g 57 (asL 4 1000 77 true 0 0 0 0 0 0 0 0 0)) :
    Calls Try.prog 14 #[.pointer (some ⟨g, 0, none⟩), ntp 0 4 4 1 0 0 0 0 0 0 78 X1 X2, .int .i64 3000] w fun e w' => e = .returned (.agg (hdL 2 ⟨#[]⟩ 0 0 0 0).toArray) ∧ Blk w' g 57 (asL 4 1000 77 true 0 0 0 1 0 0 0 0 0) ∧ But g w w' :=
  receive_any g 4 1000 77 true 0 0 0 0 0 0 0 0 0 3000 0 4 4 1 0 0 0 0 0 0 78 X1 X2 2 _ w H (by omega) (by omega) cb0 cb0 cb0 cb0 cb0 cb0 cb0 cb0 exR1 rfl
theorem ex_r2 (g : Nat) (w : World) (H : Blk w g 57 (asL 4 1000 77 true 0 0 0 1 0 0 0 0 0)) :
    Calls Try.prog 14 #[.pointer (some ⟨g, 0, none⟩), ntp 0 4 4 1 0 0 0 0 0 0 77 X1 X2, .int .i64 999] w fun e w' => e = .returned (.agg (hdL 0 ⟨#[]⟩ 0 0 0 0).toArray) ∧ Blk w' g 57 (asL 4 1000 77 true 0 1 0 1 0 0 0 0 0) ∧ But g w w' :=
  receive_any g 4 1000 77 true 0 0 0 1 0 0 0 0 0 999 0 4 4 1 0 0 0 0 0 0 77 X1 X2 0 _ w H (by omega) (by omega) cb0 cb0 cb1 cb0 cb0 cb0 cb0 cb0 exR2 rfl
theorem ex_r3 (g : Nat) (w : World) (H : Blk w g 57 (asL 4 1000 77 true 0 1 0 1 0 0 0 0 0)) :
    Calls Try.prog 14 #[.pointer (some ⟨g, 0, none⟩), ntp 0 4 4 1 0 0 0 0 0 0 77 X1 X2, .int .i64 3000] w fun e w' => e = .returned (.agg (hdL 7 ⟨#[]⟩ 1000 1500 1600 3000).toArray) ∧ Blk w' g 57 (asL 4 1000 77 false X2 1 0 1 0 0 0 0 1) ∧ But g w w' := by
  have h := receive_any g 4 1000 77 true 0 1 0 1 0 0 0 0 0 3000 0 4 4 1 0 0 0 0 0 0 77 X1 X2 9 7 w H (by omega) (by omega) cb1 cb0 cb1 cb0 cb0 cb0 cb0 cb0 exR3 exA3
  rw [exI1, exI2, exS] at h
  exact h
theorem ex_r4 (g : Nat) (w : World) (H : Blk w g 57 (asL 4 1000 77 false X2 1 0 1 0 0 0 0 1)) :
    Calls Try.prog 14 #[.pointer (some ⟨g, 0, none⟩), ntp 0 4 4 1 0 0 0 0 0 0 77 X1 X2, .int .i64 3000] w fun e w' => e = .returned (.agg (hdL 1 ⟨#[]⟩ 0 0 0 0).toArray) ∧ Blk w' g 57 (asL 4 1000 77 false X2 1 1 1 0 0 0 0 1) ∧ But g w w' :=
  receive_any g 4 1000 77 false X2 1 0 1 0 0 0 0 1 3000 0 4 4 1 0 0 0 0 0 0 77 X1 X2 1 _ w H (by omega) (by omega) cb1 cb0 cb1 cb0 cb0 cb0 cb0 cb1 exR4 rfl
end Go.Proofs.Ytickoncgnjgciaa
