/- NtpmsgBack (P19.1, P19.2, P19.3, P19.6): for every input the law returns true, and its arguments read afterwards as before. No condition. -/
import Derived.Test.YthhdbpdgppppiaaNtp8
import Derived.Test.YthhdbpdgppppiaaNtpP
import Derived.Test.YthhdbpdgppppiaaFields
import Derived.Test.YthhdbpdgppppiaaOpen
namespace Go.Proofs.Ythhdbpdgppppiaa
open Go.ChangeShapes Go.WideShapes Go.ChangeAt Go.RowKit Go.Joins
set_option linter.unusedSimpArgs false
set_option linter.unusedVariables false
set_option maxRecDepth 100000 in
set_option maxHeartbeats 4000000 in
theorem back_long (l v m st po pr rd rp id ref org rec xmt : Int) (A : Option Addr) (n c : Nat) (w : World) (hl : 2000 < n) :
    Calls Try.prog 5 #[ntp l v m st po pr rd rp id ref org rec xmt, .slice A n c] w fun e w' => e = .returned (.bool true) ∧ Below w.heap.size w w' := by
  have hl' : (2000 : Int) < n := by omega
  go_enter Try.func5, Try.ntmps5
  go_wp2_with (first | (refine wpl_box (by rfl) 25 _ (by rfl) _ [.int .i64 l, .int .i64 v, .int .i64 m, .int .i64 st, .int .i64 po, .int .i64 pr, .int .u32 rd, .int .u32 rp, .int .u32 id, .int .u64 ref, .int .u64 org, .int .u64 rec, .int .u64 xmt] (by rfl) rfl ?_; intro w1 H1 s1 b1))
  with_reducible refine (awake_any _).mono ?_
  rintro e wa ⟨rfl, ba⟩
  have Ba := (b1).trans (ba.mono (b1).size)
  go_wp2
  go_ret
  exact ⟨rfl, Ba⟩
set_option maxRecDepth 100000 in
set_option maxHeartbeats 4000000 in
theorem back_bad (l v m st po pr rd rp id ref org rec xmt : Int) (A : Option Addr) (n c : Nat) (w : World) (hl : n ≤ 2000) (hk : nchk l v m st po pr = 3) :
    Calls Try.prog 5 #[ntp l v m st po pr rd rp id ref org rec xmt, .slice A n c] w fun e w' => e = .returned (.bool true) ∧ Below w.heap.size w w' := by
  have hl' : (n : Int) ≤ 2000 := by omega
  go_enter Try.func5, Try.ntmps5
  go_wp2_with (first | (refine wpl_box (by rfl) 25 _ (by rfl) _ [.int .i64 l, .int .i64 v, .int .i64 m, .int .i64 st, .int .i64 po, .int .i64 pr, .int .u32 rd, .int .u32 rp, .int .u32 id, .int .u64 ref, .int .u64 org, .int .u64 rec, .int .u64 xmt] (by rfl) rfl ?_; intro w1 H1 s1 b1) | (refine wpl_load (by rfl) 25 _ (by rfl) w.heap.size (by rfl) 25 _ H1 _ Try.underlying25 rfl _ sizeNtp (by rfl) ?_))
  have hE := encode_err l v m st po pr rd rp id ref org rec xmt w1 hk
  with_reducible refine hE.mono ?_
  rintro e w2 ⟨rfl, b2⟩
  have H2 := H1.below b2 H1.lt
  have B2 := b1.trans (b2.mono b1.size)
  have hE := nchk_any l v m st po pr rd rp id ref org rec xmt w2
  rw [hk] at hE
  clear b2 b1
  go_wp2_with (first | (refine wpl_load (by rfl) 25 _ (by rfl) w.heap.size (by rfl) 25 _ H2 _ Try.underlying25 rfl _ sizeNtp (by rfl) ?_))
  with_reducible refine hE.mono ?_
  rintro e w3 ⟨rfl, b3⟩
  have B3 := B2.trans (b3.mono B2.size)
  clear b3 hE
  go_wp2_with fail
  with_reducible refine (awake_any _).mono ?_
  rintro e wa ⟨rfl, ba⟩
  have Ba := (B3).trans (ba.mono (B3).size)
  go_wp2
  go_ret
  exact ⟨rfl, Ba⟩
set_option maxRecDepth 100000 in
set_option maxHeartbeats 4000000 in
theorem back_ok (l v m st po pr rd rp id ref org rec xmt : Int) (A : Option Addr) (n c : Nat) (beh : List Int) (w : World) (hn : beh.length = n) (h : Bs w 0 w.heap.size A beh) (hl : n ≤ 2000) (hnc : n ≤ c) (hc : c ≤ 140737488351232) (hk : nchk l v m st po pr = 0) (h6 : 0 ≤ rd ∧ rd ≤ 4294967295) (h7 : 0 ≤ rp ∧ rp ≤ 4294967295) (h8 : 0 ≤ id ∧ id ≤ 4294967295) (h9 : 0 ≤ ref ∧ ref ≤ 18446744073709551615) (h10 : 0 ≤ org ∧ org ≤ 18446744073709551615) (h11 : 0 ≤ rec ∧ rec ≤ 18446744073709551615) (h12 : 0 ≤ xmt ∧ xmt ≤ 18446744073709551615) :
    Calls Try.prog 5 #[ntp l v m st po pr rd rp id ref org rec xmt, .slice A n c] w fun e w' => e = .returned (.bool true) ∧ Below w.heap.size w w' := by
  have hl' : (n : Int) ≤ 2000 := by omega
  obtain ⟨L, hL, f0, f1, f2, f3, f4, f5, f6, f7, f8, f9, f10, fd⟩ := encH_back l v m st po pr rd rp id ref org rec xmt beh hk h6 h7 h8 h9 h10 h11 h12
  obtain ⟨kl, kv, km, kst, kpo, kpr⟩ := nchk_ok hk
  have hl48 := encH_len l v m st po pr rd rp id ref org rec xmt
  have hLn : L.length = n + 48 := by rw [hL, List.length_append, hl48]; omega
  have g1 : (l * 64 + v * 8 + m) / 64 = l := by omega
  have g2 : (l * 64 + v * 8 + m) / 8 % 8 = v := by omega
  have g3 : (l * 64 + v * 8 + m) % 8 = m := by omega
  have G := Lib.hid (And.intro g1 (And.intro g2 g3))
  clear g1 g2 g3
  obtain ⟨F, hF⟩ : ∃ F, F = Lib.hid (And.intro f0 (And.intro f1 (And.intro f2 (And.intro f3 (And.intro f4 (And.intro f5 (And.intro f6 (And.intro f7 (And.intro f8 (And.intro f9 (And.intro f10 fd)))))))))))  := ⟨_, rfl⟩
  clear hF f0 f1 f2 f3 f4 f5 f6 f7 f8 f9 f10 fd
  have hK := Lib.hid hk
  clear hk
  go_enter Try.func5, Try.ntmps5
  go_wp2_with (first | (refine wpl_box (by rfl) 25 _ (by rfl) _ [.int .i64 l, .int .i64 v, .int .i64 m, .int .i64 st, .int .i64 po, .int .i64 pr, .int .u32 rd, .int .u32 rp, .int .u32 id, .int .u64 ref, .int .u64 org, .int .u64 rec, .int .u64 xmt] (by rfl) rfl ?_; intro w1 H1 s1 b1) | (refine wpl_load (by rfl) 25 _ (by rfl) w.heap.size (by rfl) 25 _ H1 _ Try.underlying25 rfl _ sizeNtp (by rfl) ?_))
  have hE := encode_ok l v m st po pr rd rp id ref org rec xmt w1 hK.out h6 h7 h8 h9 h10 h11 h12
  with_reducible refine hE.mono ?_
  rintro e w2 ⟨A2, c2, rfl, hB2, hc48, hcm, b2⟩
  have H2 := H1.below b2 H1.lt
  have h2 := (h.below b1 (Nat.le_refl _)).below b2 (by omega)
  have B2 := b1.trans (b2.mono b1.size)
  have hl2 := H2.lt
  have z2 := b2.size
  clear b2 b1 hE
  have hE := nchk_any l v m st po pr rd rp id ref org rec xmt w2
  rw [hK.out] at hE
  go_wp2_with (first | (refine wpl_load (by rfl) 25 _ (by rfl) w.heap.size (by rfl) 25 _ H2 _ Try.underlying25 rfl _ sizeNtp (by rfl) ?_))
  with_reducible refine hE.mono ?_
  rintro e w3 ⟨rfl, b3⟩
  have H3 := H2.below b3 hl2
  have h3 := h2.below b3 (by omega)
  have hB3 := hB2.below b3 (Nat.le_refl _)
  have B3 := B2.trans (b3.mono B2.size)
  have z3 := b3.size
  clear b3 hE H2 h2 hB2 B2
  have hO1 := Ow.lit w3 [] #[] rfl Byt.nil (by simp)
  have hB4 := hB3.alloc (o := .cells #[] 5) z3
  go_wp2_with (first
    | (at_builtin; refine wpList_append_bs rfl (.tmp 33) (.tmp 34) rfl 0 0 48 c2 (by rfl) (by rfl) rfl hl48 hO1 hB4 (by omega) (by simp) ?_; intro A5 c5 w5 hO5 b5 _; (have h5 := (h3.alloc (o := .cells #[] 5) (by omega)).below b5 (by omega)); (have z5 := b5.size); simp only [World.size_alloc] at z5)
    | (at_builtin; refine wpList_append_bs rfl (.tmp 35) (.tmp 36) rfl 48 c5 n c (by rfl) (by rfl) hl48 hn hO5 h5 (by omega) (by omega) ?_; intro A6 c6 w6 hO6 b6 _))
  try rw [List.nil_append] at hO6
  rw [← hL] at hO6
  have z6 := b6.size
  have H6 := ((H3.old (o := .cells #[] 5)).below b5 (by omega)).below b6 (by omega)
  have h6' := h5.below b6 (by omega)
  have B6 : Below w.heap.size w w6 := ((B3.alloc (by omega) _).trans (b5.mono (by omega))).trans (b6.mono (by omega))
  have hB6 := ((hB4.below b5 (by omega)).below b6 (by omega))
  clear hO1 hB4 hO5 b5 b6 H3 h3 B3 h5
  obtain ⟨f0, f1, f2, f3, f4, f5, f6, f7, f8, f9, f10, fd⟩ := F.out
  have hE := decode_ok A6 (48 + n) c6 L w6 (by omega) (hO6.bs.wide (Nat.zero_le _) (Nat.le_refl _)) (by omega) (by omega) (l * 64 + v * 8 + m) f0 (by omega)
  rw [f1, f2, f3, f4, f5, f6, f7, f8, f9, f10, fd, G.out.1, G.out.2.1, G.out.2.2, show 48 + n - 48 = n by omega] at hE
  clear f0 f1 f2 f3 f4 f5 f6 f7 f8 f9 f10 fd
  with_reducible refine hE.mono ?_
  rintro e w7 ⟨A7, c7, rfl, hO7, b7⟩
  have H7 := H6.below b7 H6.lt
  have h7' := h6'.below b7 (by omega)
  have B7 := B6.trans (b7.mono B6.size)
  have z7 := b7.size
  have l7 := H7.lt
  clear hE H6 h6' B6 b7 hO6 hB6
  go_wp2_with (first | (refine wpl_alloc (by rfl) 25 (by rfl) (.agg (zN).toArray) zN zeroNtp rfl ?_; intro w8 J8 s8 b8) | (refine wpl_store (by rfl) 25 _ _ (by rfl) w7.heap.size (by rfl) _ (by rfl) _ rfl 25 _ J8 (by rfl) _ sizeNtp (by rfl) (by simp [Value.oneCell']) ?_; intro w9 J9 s9 g9) | (refine wpl_load (by rfl) 25 _ (by rfl) w7.heap.size (by rfl) 25 _ J9 _ Try.underlying25 rfl _ sizeNtp (by rfl) ?_) | (refine wpl_load (by rfl) 25 _ (by rfl) w.heap.size (by rfl) 25 _ ((H7.below b8 l7).but g9 (by omega)) _ Try.underlying25 rfl _ sizeNtp (by rfl) ?_))
  have hO9 := (hO7.bs.below b8 (Nat.le_refl _)).grown g9 (by omega) (by simp <;> omega)
  have h9' := (h7'.below b8 (by omega)).grown g9 (by omega) (by simp <;> omega)
  have B9 := (B7.trans (b8.mono B7.size)).trans (g9.below (by omega) (by omega))
  have hE := same_any A7 A n n c7 c _ _ _ _ beh beh w9 hn hn hO9 h9' (by omega) (by omega) (by omega) (by omega)
  rw [smB_self] at hE
  clear H7 h7' B7 b8 g9 J8 J9 hO7 hO9 h9' hB3
  with_reducible refine hE.mono ?_
  rintro e w10 ⟨rfl, b10⟩
  have B10 := B9.trans (b10.mono B9.size)
  clear hE b10 B9
  go_wp2_with fail
  with_reducible refine (awake_any _).mono ?_
  rintro e wa ⟨rfl, ba⟩
  have Ba := (B10).trans (ba.mono (B10).size)
  go_wp2
  go_ret
  exact ⟨rfl, Ba⟩
theorem backLaw (l v m st po pr rd rp id ref org rec xmt : Int) (A : Option Addr) (n c : Nat) (beh : List Int) (w : World) (hn : beh.length = n) (h : Bs w 0 w.heap.size A beh) (hnc : n ≤ c) (hc : c ≤ 140737488351232) (h6 : 0 ≤ rd ∧ rd ≤ 4294967295) (h7 : 0 ≤ rp ∧ rp ≤ 4294967295) (h8 : 0 ≤ id ∧ id ≤ 4294967295) (h9 : 0 ≤ ref ∧ ref ≤ 18446744073709551615) (h10 : 0 ≤ org ∧ org ≤ 18446744073709551615) (h11 : 0 ≤ rec ∧ rec ≤ 18446744073709551615) (h12 : 0 ≤ xmt ∧ xmt ≤ 18446744073709551615) :
    Calls Try.prog 5 #[ntp l v m st po pr rd rp id ref org rec xmt, .slice A n c] w fun e w' => e = .returned (.bool true) ∧ Below w.heap.size w w' := by
  by_cases hl : n ≤ 2000
  · by_cases hk : nchk l v m st po pr = 0
    · exact back_ok l v m st po pr rd rp id ref org rec xmt A n c beh w hn h hl hnc hc hk h6 h7 h8 h9 h10 h11 h12
    · exact back_bad l v m st po pr rd rp id ref org rec xmt A n c w hl (nchk_3 hk)
  · exact back_long l v m st po pr rd rp id ref org rec xmt A n c w (by omega)
namespace lawBack
set_option maxRecDepth 100000 in
theorem lifted (os : Os) (started : os.Started) (H : Type) (enc : TypeId × Value → H) :
    ReturnsInHanded {} Try.checked os 5 .any (Rows.ntpmsgBackSpec.pre6 enc Try.prog Try.f5 Rows.ntpmsgBackRow.domain false) (Rows.ntpmsgBackSpec.post enc Try.prog Try.f5 false true false false) := by
  refine returnsInHanded_of_change_sized (C := Try.checked) own started (by kernel_rfl) Try.func5
    (ChangeSpec.witness6 (enc := enc) (C := Try.checked) false ⟨#[], #[ntp 0 0 0 0 0 0 0 0 0 0 0 0 0, .slice none 0 0], []⟩ 8 (by kernel_rfl) (by kernel_rfl) (by kernel_rfl) (by kernel_rfl)) ?_
  intro W base args ds gs before hval0 hW hcnd hsz0 _
  have hval : ∀ (j : Nat) t v, Try.f5.params[j]? = some t → args[j]? = some v → Value.okWide Try.prog W .any base t v := hval0
  have hW' := hW
  obtain ⟨p, q, hA0, hV, rfl, hfz, hnd⟩ := hW
  have hA : DataW.TrodAll enc Try.prog W 0 (fun _ => true) true Try.f5.params.toList args.toList ds p := hA0
  have hsz : (DataW.weightsEach Try.prog (Try.f5.params.toList ++ Rows.ntpmsgBackSpec.plain.varTypes Try.prog) (ds ++ gs)).all (· ≤ reachBytes) = true := hsz0
  rw [Try.params5] at hA hval hsz
  obtain ⟨rfl, rfl⟩ := trodVars_none hV
  obtain ⟨v0, v1, d0, d1, p0, p1, rfl, rfl, rfl, h0, h1⟩ := trodAll_two hA
  obtain ⟨l, v, m, st, po, pr, rd, rp, id, ref, org, rec, xmt, rfl, b0, b1, b2, b3, b4, b5, b6, b7, b8, b9, b10, b11, b12⟩ := open_ntp (hval 0 25 v0 rfl rfl) h0
  obtain ⟨A, n, c, beh, rfl, hn_beh, hB_beh, hc_beh, hnil_beh, hs_beh⟩ := open_bs (hval 1 26 v1 rfl rfl) h1
  have hr_beh := hs_beh hsz (j := 1) rfl rfl
  subst hn_beh
  refine (backLaw l v m st po pr rd rp id ref org rec xmt A _ c beh W rfl hB_beh hc_beh hr_beh b6 b7 b8 b9 b10 b11 b12).mono fun e W' ⟨he, hb⟩ => ?_
  subst he
  revert hb
  simp only [List.append_nil] at hW'
  intro hb
  exact ⟨_, rfl, law_post (tb := 4) laidOut Try.underlying4 rfl (by rw [Try.params5]; intro t ht; revert ht; revert t; exact of_decide_eq_true (by kernel_rfl)) rfl rfl rfl rfl hW' hb⟩
theorem over : Rows.ntpmsgBackRow.holds Try.pinned (OpenSpec.ofChange Rows.ntpmsgBackSpec) :=
  OpenClaim.holds_of_wide 5 Try.f5 rfl rfl rfl rfl rfl rfl rfl ⟨rfl, rfl, rfl, rfl, rfl⟩ rfl rfl rfl rfl rfl (by kernel_rfl) Try.func5 (by kernel_rfl)
    (of_decide_eq_true (by kernel_rfl)) (by unfold Func.isWrapper; first | (rw [if_pos (by decide +kernel)]; kernel_rfl) | (rw [if_neg (by decide +kernel)]; exact ⟨rfl, rfl⟩))
    (fun os started H enc _ => lifted os started H enc)
theorem proved : Rows.NtpmsgBackSaid :=
  over
#print axioms proved
end lawBack
end Go.Proofs.Ythhdbpdgppppiaa
