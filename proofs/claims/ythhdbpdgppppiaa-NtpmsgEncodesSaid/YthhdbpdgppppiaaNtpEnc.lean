/- NtpmsgEncodes (P19.1, P19.2): for every input the law returns true, and its arguments read afterwards as before. No condition. -/
import Derived.Test.YthhdbpdgppppiaaNtp8
import Derived.Test.YthhdbpdgppppiaaFields

namespace Go.Proofs.Ythhdbpdgppppiaa
open Go.ChangeShapes Go.WideShapes Go.ChangeAt Go.RowKit Go.Joins
set_option linter.unusedSimpArgs false
set_option linter.unusedVariables false
/-- a header valid with the bytes L, or not with none -/
def EncK (l v m st po pr rd rp id ref org rec xmt k : Int) (n : Nat) (L : List Int) : Prop := (k = 0 ∧ nchk l v m st po pr = 0 ∧ n = 48 ∧ L = encH l v m st po pr rd rp id ref org rec xmt) ∨ (k = 3 ∧ nchk l v m st po pr = 3 ∧ n = 0 ∧ L = [])
theorem EncK.len {l v m st po pr rd rp id ref org rec xmt k : Int} {n : Nat} {L : List Int} (h : EncK l v m st po pr rd rp id ref org rec xmt k n L) : L.length = n ∧ n ≤ 48 := by
  rcases h with ⟨_, _, rfl, rfl⟩ | ⟨_, _, rfl, rfl⟩
  · exact ⟨encH_len .., Nat.le_refl _⟩
  · exact ⟨rfl, by omega⟩
theorem encode_u (l v m st po pr rd rp id ref org rec xmt k : Int) (n : Nat) (L : List Int) (w : World) (hk : EncK l v m st po pr rd rp id ref org rec xmt k n L) (h6 : 0 ≤ rd ∧ rd ≤ 4294967295) (h7 : 0 ≤ rp ∧ rp ≤ 4294967295) (h8 : 0 ≤ id ∧ id ≤ 4294967295) (h9 : 0 ≤ ref ∧ ref ≤ 18446744073709551615) (h10 : 0 ≤ org ∧ org ≤ 18446744073709551615) (h11 : 0 ≤ rec ∧ rec ≤ 18446744073709551615) (h12 : 0 ≤ xmt ∧ xmt ≤ 18446744073709551615) :
    Calls Try.prog 8 #[ntp l v m st po pr rd rp id ref org rec xmt] w fun e w' => ∃ A c, e = .returned (.tuple #[.slice A n c, .int .i64 k]) ∧ Bs w' w.heap.size w'.heap.size A L ∧ Below w.heap.size w w' := by
  rcases hk with ⟨rfl, hk, rfl, rfl⟩ | ⟨rfl, hk, rfl, rfl⟩
  · exact (encode_ok l v m st po pr rd rp id ref org rec xmt w hk h6 h7 h8 h9 h10 h11 h12).mono fun e w' ⟨A, c, h1, h2, _, _, h3⟩ => ⟨A, c, h1, h2, h3⟩
  · exact (encode_err l v m st po pr rd rp id ref org rec xmt w hk).mono fun e w' ⟨h1, h2⟩ => ⟨none, 0, h1, Bs.nil, h2⟩
theorem rencode_u (l v m st po pr rd rp id ref org rec xmt k : Int) (n : Nat) (L : List Int) (w : World) (hk : EncK l v m st po pr rd rp id ref org rec xmt k n L) (h6 : 0 ≤ rd ∧ rd ≤ 4294967295) (h7 : 0 ≤ rp ∧ rp ≤ 4294967295) (h8 : 0 ≤ id ∧ id ≤ 4294967295) (h9 : 0 ≤ ref ∧ ref ≤ 18446744073709551615) (h10 : 0 ≤ org ∧ org ≤ 18446744073709551615) (h11 : 0 ≤ rec ∧ rec ≤ 18446744073709551615) (h12 : 0 ≤ xmt ∧ xmt ≤ 18446744073709551615) :
    Calls Try.prog 9 #[ntp l v m st po pr rd rp id ref org rec xmt] w fun e w' => ∃ A c, e = .returned (.tuple #[.slice A n c, .int .i64 k]) ∧ Bs w' w.heap.size w'.heap.size A L ∧ Below w.heap.size w w' := by
  rcases hk with ⟨rfl, hk, rfl, rfl⟩ | ⟨rfl, hk, rfl, rfl⟩
  · exact rencode_ok l v m st po pr rd rp id ref org rec xmt w hk h6 h7 h8 h9 h10 h11 h12
  · exact (rencode_err l v m st po pr rd rp id ref org rec xmt w hk).mono fun e w' ⟨h1, h2⟩ => ⟨none, 0, h1, Bs.nil, h2⟩
set_option maxRecDepth 100000 in
set_option maxHeartbeats 4000000 in
theorem encLaw_k (l v m st po pr rd rp id ref org rec xmt k : Int) (n : Nat) (L : List Int) (w : World) (hk : EncK l v m st po pr rd rp id ref org rec xmt k n L) (h6 : 0 ≤ rd ∧ rd ≤ 4294967295) (h7 : 0 ≤ rp ∧ rp ≤ 4294967295) (h8 : 0 ≤ id ∧ id ≤ 4294967295) (h9 : 0 ≤ ref ∧ ref ≤ 18446744073709551615) (h10 : 0 ≤ org ∧ org ≤ 18446744073709551615) (h11 : 0 ≤ rec ∧ rec ≤ 18446744073709551615) (h12 : 0 ≤ xmt ∧ xmt ≤ 18446744073709551615) :
    Calls Try.prog 3 #[ntp l v m st po pr rd rp id ref org rec xmt] w fun e w' => e = .returned (.bool true) ∧ Below w.heap.size w w' := by
  have hC1 := fun W => nchk_any l v m st po pr rd rp id ref org rec xmt W
  have hC2 := fun W => rnchk_any l v m st po pr rd rp id ref org rec xmt W
  have hln := Lib.hid hk.len.1
  have hn48 := hk.len.2
  generalize nchk l v m st po pr = K at hC1 hC2
  go_enter Try.func3, Try.ntmps3
  go_wp2_with (first | (refine wpl_box (by rfl) 25 _ (by rfl) _ [.int .i64 l, .int .i64 v, .int .i64 m, .int .i64 st, .int .i64 po, .int .i64 pr, .int .u32 rd, .int .u32 rp, .int .u32 id, .int .u64 ref, .int .u64 org, .int .u64 rec, .int .u64 xmt] (by rfl) rfl ?_; intro w1 H1 s1 b1) | (refine wpl_load (by rfl) 25 _ (by rfl) w.heap.size (by rfl) 25 _ H1 _ Try.underlying25 rfl _ sizeNtp (by rfl) ?_))
  have hE := encode_u l v m st po pr rd rp id ref org rec xmt k n L w1 hk h6 h7 h8 h9 h10 h11 h12
  with_reducible refine hE.mono ?_
  rintro e w2 ⟨A2, c2, rfl, hB2, b2⟩
  have H2 := H1.below b2 H1.lt
  have B2 := b1.trans (b2.mono b1.size)
  have z2 := H2.lt
  clear b2 b1 hE
  have hE := rencode_u l v m st po pr rd rp id ref org rec xmt k n L w2 hk h6 h7 h8 h9 h10 h11 h12
  go_wp2_with (first | (refine wpl_load (by rfl) 25 _ (by rfl) w.heap.size (by rfl) 25 _ H2 _ Try.underlying25 rfl _ sizeNtp (by rfl) ?_))
  with_reducible refine hE.mono ?_
  rintro e w3 ⟨A3, c3, rfl, hB3, b3⟩
  have H3 := H2.below b3 H2.lt
  have hB2 := hB2.below b3 (Nat.le_refl _)
  have B3 := B2.trans (b3.mono B2.size)
  have z3 := b3.size
  clear b3 hE H2 B2 H1
  have hS := fun W (h1 : Bs W w1.heap.size w2.heap.size A2 L) (h2 : Bs W w2.heap.size w3.heap.size A3 L) (h3 : w3.heap.size ≤ W.heap.size) => same_any A2 A3 n n c2 c3 _ _ _ _ L L W hln.out hln.out h1 h2 (by omega) (by omega) (by omega) (by omega)
  simp only [smB_self] at hS
  obtain ⟨N, hN⟩ : ∃ N, N = w3.heap.size := ⟨_, rfl⟩
  have zN : N ≤ w3.heap.size := by omega
  have zW : w.heap.size < N := by omega
  have z2' : w2.heap.size ≤ N := by omega
  rw [← hN] at hS hB3
  clear hN
  obtain ⟨q0, q1, q2, q3, q4, q5, q6, q7, q8, q9, q10, q11, q12⟩ := cells13 H3
  clear H3 hk s1 z2 z3
  go_wp2_with fail
  go_region_held3 (fun w' => ((w').cell? ⟨w.heap.size, 0, none⟩ = some (.int .i64 l) ∧ (w').cell? ⟨w.heap.size, 1, none⟩ = some (.int .i64 v) ∧ (w').cell? ⟨w.heap.size, 2, none⟩ = some (.int .i64 m) ∧ (w').cell? ⟨w.heap.size, 3, none⟩ = some (.int .i64 st) ∧ (w').cell? ⟨w.heap.size, 4, none⟩ = some (.int .i64 po) ∧ (w').cell? ⟨w.heap.size, 5, none⟩ = some (.int .i64 pr) ∧ (w').cell? ⟨w.heap.size, 6, none⟩ = some (.int .u32 rd) ∧ (w').cell? ⟨w.heap.size, 7, none⟩ = some (.int .u32 rp) ∧ (w').cell? ⟨w.heap.size, 8, none⟩ = some (.int .u32 id) ∧ (w').cell? ⟨w.heap.size, 9, none⟩ = some (.int .u64 ref) ∧ (w').cell? ⟨w.heap.size, 10, none⟩ = some (.int .u64 org) ∧ (w').cell? ⟨w.heap.size, 11, none⟩ = some (.int .u64 rec) ∧ (w').cell? ⟨w.heap.size, 12, none⟩ = some (.int .u64 xmt) ∧ Bs w' w1.heap.size w2.heap.size A2 L ∧ Bs w' w2.heap.size N A3 L ∧ N ≤ w'.heap.size ∧ Below w.heap.size w w')) ((go_split_ands; (repeat' (with_reducible apply And.intro)) <;> with_reducible first | assumption | (refine drew_cell ?_; assumption) | (refine drew_size ?_; assumption) | (refine Bs.drew ?_; assumption) | (refine kept_cell hb (by assumption) ?_; (try dsimp only); omega) | (refine Bs.below (by assumption) hb ?_; omega) | (refine Nat.le_trans ?_ hb.size; assumption) | (refine Below.drew ?_; assumption) | (refine Below.trans (by assumption) (hb.mono ?_); omega))) (first
    | (go_at_call 10; ((with_reducible refine (hC1 _).mono ?_); rintro e w1 ⟨rfl, hb⟩))
    | (go_at_call 11; ((with_reducible refine (hC2 _).mono ?_); rintro e w1 ⟨rfl, hb⟩))
    | (go_at_call 12; (try dsimp only at *); go_split_ands; (have hSW := hS _ (by assumption) (by assumption) (by assumption)); ((with_reducible refine hSW.mono ?_); rintro e w1 ⟨rfl, hb⟩))
    | (go_at_call 13; ((with_reducible refine (awake_any _).mono ?_); rintro e w1 ⟨rfl, hb⟩)))
  go_split_ands
  go_wp2
  go_ret
  exact ⟨rfl, by assumption⟩
theorem encLaw (l v m st po pr rd rp id ref org rec xmt : Int) (w : World) (h6 : 0 ≤ rd ∧ rd ≤ 4294967295) (h7 : 0 ≤ rp ∧ rp ≤ 4294967295) (h8 : 0 ≤ id ∧ id ≤ 4294967295) (h9 : 0 ≤ ref ∧ ref ≤ 18446744073709551615) (h10 : 0 ≤ org ∧ org ≤ 18446744073709551615) (h11 : 0 ≤ rec ∧ rec ≤ 18446744073709551615) (h12 : 0 ≤ xmt ∧ xmt ≤ 18446744073709551615) :
    Calls Try.prog 3 #[ntp l v m st po pr rd rp id ref org rec xmt] w fun e w' => e = .returned (.bool true) ∧ Below w.heap.size w w' := by
  by_cases hk : nchk l v m st po pr = 0
  · exact encLaw_k l v m st po pr rd rp id ref org rec xmt 0 48 _ w (.inl ⟨rfl, hk, rfl, rfl⟩) h6 h7 h8 h9 h10 h11 h12
  · exact encLaw_k l v m st po pr rd rp id ref org rec xmt 3 0 _ w (.inr ⟨rfl, nchk_3 hk, rfl, rfl⟩) h6 h7 h8 h9 h10 h11 h12
namespace lawEnc
set_option maxRecDepth 100000 in
theorem lifted (os : Os) (started : os.Started) (H : Type) (enc : TypeId × Value → H) :
    ReturnsInHanded {} Try.checked os 3 .any (Rows.ntpmsgEncodesSpec.pre6 enc Try.prog Try.f3 Rows.ntpmsgEncodesRow.domain false) (Rows.ntpmsgEncodesSpec.post enc Try.prog Try.f3 false true false false) := by
  refine returnsInHanded_of_change (C := Try.checked) own started (by kernel_rfl) Try.func3
    (ChangeSpec.witness6 (enc := enc) (C := Try.checked) false ⟨#[], #[ntp 0 0 0 0 0 0 0 0 0 0 0 0 0], []⟩ 8 (by kernel_rfl) (by kernel_rfl) (by kernel_rfl) (by kernel_rfl)) ?_
  intro W base args ds gs before hval0 hW hcnd _
  have hval : ∀ (j : Nat) t v, Try.f3.params[j]? = some t → args[j]? = some v → Value.okWide Try.prog W .any base t v := hval0
  have hW' := hW
  obtain ⟨p, q, hA0, hV, rfl, hfz, hnd⟩ := hW
  have hA : DataW.TrodAll enc Try.prog W 0 (fun _ => true) true Try.f3.params.toList args.toList ds p := hA0
  rw [Try.params3] at hA hval
  obtain ⟨rfl, rfl⟩ := trodVars_none hV
  obtain ⟨v0, d0, rfl, rfl, h0⟩ := trodAll_one hA
  obtain ⟨l, v, m, st, po, pr, rd, rp, id, ref, org, rec, xmt, rfl, b0, b1, b2, b3, b4, b5, b6, b7, b8, b9, b10, b11, b12⟩ := open_ntp (hval 0 25 v0 rfl rfl) h0
  refine (encLaw l v m st po pr rd rp id ref org rec xmt W b6 b7 b8 b9 b10 b11 b12).mono fun e W' ⟨he, hb⟩ => ?_
  subst he
  revert hb
  simp only [List.append_nil] at hW'
  intro hb
  exact ⟨_, rfl, law_post (tb := 4) laidOut Try.underlying4 rfl (by rw [Try.params3]; intro t ht; revert ht; revert t; exact of_decide_eq_true (by kernel_rfl)) rfl rfl rfl rfl hW' hb⟩
theorem over : Rows.ntpmsgEncodesRow.holds Try.pinned (OpenSpec.ofChange Rows.ntpmsgEncodesSpec) :=
  OpenClaim.holds_of_wide 3 Try.f3 rfl rfl rfl rfl rfl rfl rfl ⟨rfl, rfl, rfl, rfl, rfl⟩ rfl rfl rfl rfl rfl (by kernel_rfl) Try.func3 (by kernel_rfl)
    (of_decide_eq_true (by kernel_rfl)) (by unfold Func.isWrapper; first | (rw [if_pos (by decide +kernel)]; kernel_rfl) | (rw [if_neg (by decide +kernel)]; exact ⟨rfl, rfl⟩))
    (fun os started H enc _ => lifted os started H enc)
theorem proved : Rows.NtpmsgEncodesSaid :=
  over
#print axioms proved
end lawEnc
end Go.Proofs.Ythhdbpdgppppiaa
