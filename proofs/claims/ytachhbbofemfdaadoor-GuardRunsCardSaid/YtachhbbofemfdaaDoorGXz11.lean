/- The client: Accept, the fresh cookies of a reply. -/
import Derived.Test.YtachhbbofemfdaaDoorGXz10
namespace Go.Proofs.YtachhbbofemfdaaDoor
open Go.RowKit
set_option linter.unusedSimpArgs false
set_option linter.unusedVariables false
set_option maxRecDepth 100000
abbrev FtT := Option Addr × Nat × List Int
abbrev ftV (t : FtT) : Value := .slice t.1 t.2.2.length t.2.1
def frs (L : Flds) : List (List Int) := (L.filter fun t => t.1 == 772).map (·.2)
theorem take_get {L : Flds} {k : Nat} (hk : k < L.length) : L.take (k + 1) = L.take k ++ [(kdL L k, dtL L k)] := by
  obtain ⟨e1, e2⟩ := kd_get hk
  rw [List.take_succ_eq_append_getElem hk, e1, e2]
theorem frs_yes {L : Flds} {k : Nat} (hk : k < L.length) (h : kdL L k = 772) : frs (L.take (k + 1)) = frs (L.take k) ++ [dtL L k] := by
  rw [take_get hk, h]
  unfold frs
  simp
theorem frs_no {L : Flds} {k : Nat} (hk : k < L.length) (h : kdL L k ≠ 772) : frs (L.take (k + 1)) = frs (L.take k) := by
  rw [take_get hk]
  unfold frs
  simp [h]
theorem XO.at {w : World} {lo c : Nat} {A : Option Addr} {L : Flds} (h : XO w lo A c L) {k : Nat} (hk : k < L.length) : ∃ g Ak ck, A = some ⟨g, 0, none⟩ ∧ lo ≤ g ∧ g < w.heap.size ∧ w.rangeAt g (k * 2) [.int .i64 (kdL L k), .slice Ak (dtL L k).length ck] ∧ Ow w lo Ak ck (dtL L k) := by
  obtain ⟨T, rfl, h2, h3⟩ := h
  rw [flds_len] at hk
  obtain ⟨g, cap, e, h4, h5, _, _, hc⟩ := own_form h2 (by omega)
  have hA : A = some ⟨g, 0, none⟩ := by injection e
  obtain ⟨r0, r1⟩ := rowX_at T k hk
  have hO := h3 (T[k]) (List.getElem_mem hk)
  have e0 : kdL (flds T) k = (T[k]).1.1 := by unfold kdL flds; rw [List.getD_eq_getElem?_getD, List.getElem?_map, List.getElem?_eq_getElem hk]; rfl
  have e1 : dtL (flds T) k = (T[k]).1.2 := by unfold dtL flds; rw [List.getD_eq_getElem?_getD, List.getElem?_map, List.getElem?_eq_getElem hk]; rfl
  rw [e0, e1]
  refine ⟨g, (T[k]).2.1, (T[k]).2.2, hA, h4, h5, fun j v hv => ?_, hO⟩
  match j with
  | 0 => simp at hv; rw [← hv]; exact (hc _ (by omega)).trans r0
  | 1 => simp at hv; rw [← hv]; exact (hc _ (by omega)).trans r1
  | j + 2 => simp at hv
/-- the fresh cookies that were found -/
structure FrI (w6 wr : World) (lo : Nat) (fv : Value) (R : List (List Int)) (F : List FtT) (AF : Option Addr) (nF cF gF : Nat) : Prop where
  val : fv = .slice AF nF cF
  len : F.length = nF
  row : Rw wr 1 gF [] AF nF cF (F.map ftV)
  new : w6.heap.size ≤ gF
  dat : ∀ t ∈ F, Bs w6 lo w6.heap.size t.1 t.2.2 ∧ t.2.2.length = 52
  say : F.map (fun t => t.2.2) = R
  bel : Below w6.heap.size w6 wr
theorem FrI.step {w6 wr wn : World} {lo : Nat} {fv : Value} {R : List (List Int)} {F : List FtT} {AF : Option Addr} {nF cF gF : Nat} (h : FrI w6 wr lo fv R F AF nF cF gF) (hb : Below wr.heap.size wr wn) : FrI w6 wn lo fv R F AF nF cF gF :=
  ⟨h.val, h.len, h.row.below (by omega) hb (Nat.le_refl _), h.new, h.dat, h.say, h.bel.trans (hb.mono h.bel.size)⟩
theorem frs_le {w6 wr : World} {lo : Nat} {fv : Value} {L : Flds} {j : Nat} {F : List FtT} {AF : Option Addr} {nF cF gF : Nat} (h : FrI w6 wr lo fv (frs (L.take j)) F AF nF cF gF) (hj : L.length ≤ 1000000) : nF ≤ 1000000 := by
  have h1 := congrArg List.length h.say
  rw [List.length_map, h.len] at h1
  have h2 : (frs (L.take j)).length ≤ (L.take j).length := by unfold frs; rw [List.length_map]; exact List.length_filter_le _ _
  rw [List.length_take] at h2
  omega
theorem frs_le16 {L : Flds} {F : List FtT} {nF : Nat} (h : F.map (fun t => t.2.2) = frs L) (hl : F.length = nF) : nF ≤ L.length := by
  have h1 := congrArg List.length h
  rw [List.length_map, hl] at h1
  have h2 : (frs L).length ≤ L.length := by unfold frs; rw [List.length_map]; exact List.length_filter_le _ _
  omega
/-- one more -/
theorem FrI.push {w6 wr wm wn : World} {lo : Nat} {fv : Value} {R : List (List Int)} {F : List FtT} {AF A' : Option Addr} {nF cF gF g' c' : Nat} {Ak : Option Addr} {ck : Nat} {d : List Int} (h : FrI w6 wr lo fv R F AF nF cF gF) (hb : Below wr.heap.size wr wm)
    (hd : Bs w6 lo w6.heap.size Ak d) (h52 : d.length = 52) (hr : Rw wn 1 g' [] A' (nF + 1) c' (F.map ftV ++ [.slice Ak 52 ck])) (hk : Kp wm (fp cF gF) wn) (hg : g' = gF ∨ wm.heap.size ≤ g') :
    FrI w6 wn lo (.slice A' (nF + 1) c') (R ++ [d]) (F ++ [(Ak, ck, d)]) A' (nF + 1) c' g' := by
  have hz := hb.size
  have hz2 := h.bel.size
  refine ⟨rfl, by rw [List.length_append, h.len]; rfl, ?_, ?_, fun t ht => ?_, ?_, ?_⟩
  · rw [List.map_append]
    have e : [((Ak, ck, d) : FtT)].map ftV = [.slice Ak 52 ck] := by simp [h52]
    rw [e]
    exact hr
  · rcases hg with e | e
    · rw [e]; exact h.new
    · omega
  · rw [List.mem_append] at ht
    rcases ht with ht | ht
    · exact h.dat t ht
    · obtain rfl : t = (Ak, ck, d) := by simpa using ht
      exact ⟨hd, h52⟩
  · rw [List.map_append, h.say]; rfl
  · exact hk.toBelow (h.bel.trans (hb.mono hz2)) (by omega) (fun g hg => by rw [(fp_mem hg).2]; exact h.new)
def ckN (CK F : List (List Int)) : List (List Int) := (CK ++ F).take 8
theorem kp_trans2 {x y z : World} {G H : List Nat} (h : Kp x G y) (k : Kp y H z) (hH : ∀ g ∈ H, x.heap.size ≤ g ∨ g ∈ G) : Kp x G z :=
  ⟨k.os.trans h.os, k.tape.trans h.tape, k.output.trans h.output, Nat.le_trans h.size k.size, fun b hb hg => (k.block b (by have := h.size; omega) (fun hm => (hH b hm).elim (fun q => by omega) hg)).trans (h.block b hb hg)⟩
theorem ckN_start {CK R : List (List Int)} (h : CK.length ≤ 8) : ckN CK (R.take 0) = CK := by
  unfold ckN
  rw [List.take_zero, List.append_nil, List.take_of_length_le h]
theorem ckN_lt {CK R X : List (List Int)} {j : Nat} (h : X = ckN CK (R.take j)) (hl : X.length < 8) (hj : j < R.length) : X ++ [R[j]] = ckN CK (R.take (j + 1)) := by
  unfold ckN at *
  rw [List.take_succ_eq_append_getElem hj, ← List.append_assoc]
  generalize CK ++ R.take j = Y at h ⊢
  rw [h, List.length_take] at hl
  rw [h, List.take_of_length_le (show Y.length ≤ 8 by omega), List.take_of_length_le (show (Y ++ [R[j]]).length ≤ 8 by rw [List.length_append]; simp only [List.length_cons, List.length_nil]; omega)]
theorem ckN_ge {CK R X : List (List Int)} {j : Nat} (h : X = ckN CK (R.take j)) (hl : 8 ≤ X.length) (hj : j < R.length) : X = ckN CK (R.take (j + 1)) := by
  unfold ckN at *
  rw [List.take_succ_eq_append_getElem hj, ← List.append_assoc]
  generalize CK ++ R.take j = Y at h ⊢
  rw [h, List.length_take] at hl
  rw [h, List.take_append_of_le_length (show 8 ≤ Y.length by omega)]
theorem mem2 {q a b : Nat} (h : q ∈ [a, b]) : q = a ∨ q = b := by simpa using h
theorem ckN_len (CK R : List (List Int)) : (ckN CK R).length ≤ 8 := by unfold ckN; rw [List.length_take]; omega
theorem flat_take (I : List (List Int)) (h : ∀ l ∈ I, l.length = 16 ∧ Byt l) : ∀ k, k ≤ I.length → (I.flatMap byC).take (k * 16) = (I.take k).flatMap byC ∧ (I.flatMap byC).drop (k * 16) = (I.drop k).flatMap byC
  | 0, _ => by simp
  | k + 1, hk => by
    obtain ⟨h1, h2⟩ := flat_take I h k (by omega)
    have hm : I[k] ∈ I := List.getElem_mem (by omega)
    have hl : (byC I[k]).length = 16 := by rw [List.length_map]; exact (h _ hm).1
    have e : I.drop k = I[k] :: I.drop (k + 1) := (List.drop_eq_getElem_cons (by omega))
    rw [e, List.flatMap_cons] at h2
    have e2 : (k + 1) * 16 = k * 16 + 16 := by omega
    constructor
    · rw [e2, List.take_add, h1, h2, List.take_left' hl, List.take_succ_eq_append_getElem (by omega), List.flatMap_append]
      simp
    · rw [e2, ← List.drop_drop, h2, List.drop_left' hl]
theorem flat_one (I : List (List Int)) : ∀ u ∈ I.flatMap byC, u.oneCell' = true := fun u hu => by
  obtain ⟨l, _, hl⟩ := List.mem_flatMap.1 hu
  obtain ⟨x, _, rfl⟩ := List.mem_map.1 hl
  rfl
/-- an identifier is taken out -/
theorem ClX.wdel {w w' x : World} {lo b g1 g2 : Nat} {k0 k1 k2 k3 N : Int} {T : List CkT} {I : List (List Int)} {A A2 : Option Addr} {n c n2 c2 k : Nat} (h : ClX w lo b g1 g2 k0 k1 k2 k3 T N I A n c A2 n2 c2) (hk : k < n2)
    (hr : Rw w' 16 g2 [b, g1] A2 (n2 - 1) c2 ((I.flatMap byC).take (k * 16) ++ (I.flatMap byC).drop ((k + 1) * 16))) (hg : But g2 w w') (hx : x = w'.setCell ⟨b, 6, none⟩ (.slice A2 (n2 - 1) c2)) :
    ClX x lo b g1 g2 k0 k1 k2 k3 T N (I.take k ++ I.drop (k + 1)) A n c A2 (n2 - 1) c2 ∧ Kp w [b, g2] x := by
  have hc2 : c2 ≠ 0 := by have := h.ws.2.1; omega
  have h2 := (h.ws.lt hc2 (by omega)).2
  have h2' : g2 ≠ b ∧ g2 ≠ g1 := by simpa using h2
  have hk1 : Kp w [g2] w' := Kp.of_but hg (.inr (by simp))
  have hB := hk1.blk h.blk (by simpa using Ne.symm h2'.1)
  have hsz : x.heap.size = w'.heap.size := by rw [hx]; simp [World.setCell]
  have hgx : But b w' x := by rw [hx]; exact but_setCell _ _ _ _
  have hk2 : Kp w' [b] x := Kp.of_but hgx (.inr (by simp))
  have hBx : Blk x b 100 (clL k0 k1 k2 k3 A n c N A2 (n2 - 1) c2) := by rw [hx]; exact hB.set 6 _
  have hf := h.wn
  obtain ⟨e1, _⟩ := flat_take I h.wt k (by omega)
  obtain ⟨_, e2⟩ := flat_take I h.wt (k + 1) (by omega)
  rw [e1, e2, ← List.flatMap_append] at hr
  refine ⟨⟨hBx, h.tn, by rw [List.length_append, List.length_take, List.length_drop]; omega, ?_, hr.kp hk2 (by omega) (fun _ _ => by simpa using h2'.1), fun u hu => ?_, fun u hu => ?_, h.lob, h.lo1, h.lo2, by rw [hsz]; exact Nat.lt_of_lt_of_le h.lt1 hk1.size, by rw [hsz]; exact Nat.lt_of_lt_of_le h.lt2 hk1.size⟩, ?_⟩
  · refine (h.cs.kp hk1 (by omega) fun _ hx => ?_).kp hk2 (by omega) fun _ hx => ?_
    · simpa using Ne.symm h2'.2
    · have : g1 ≠ b ∧ g1 ≠ g2 := by simpa using hx
      simpa using this.1
  · have key := h.ck u hu
    have hu3 : u.1 ≠ b ∧ u.1 ≠ g1 ∧ u.1 ≠ g2 := by simpa using key.1.2
    exact ⟨(key.1.kp hk1 (by simpa using hu3.2.2) key.1.2).kp hk2 (by simpa using hu3.1) key.1.2, key.2⟩
  · rw [List.mem_append] at hu
    rcases hu with hu | hu
    · exact h.wt u (List.mem_of_mem_take hu)
    · exact h.wt u (List.mem_of_mem_drop hu)
  · exact (kp_mono hk1 (fun x hx => by have : x = g2 := by simpa using hx
                                       subst this; simp)).but hgx (.inr (by simp))
def frB (L : Flds) : Bool := (frs L).all fun d => d.length == 52
theorem frB_no {L : Flds} {k : Nat} (hk : k < L.length) (h : kdL L k = 772) (h2 : (dtL L k).length ≠ 52) : frB L = false := by
  have hm : dtL L k ∈ frs L := by
    unfold frs
    obtain ⟨e1, e2⟩ := kd_get hk
    rw [e2]
    refine List.mem_map.2 ⟨L[k], List.mem_filter.2 ⟨List.getElem_mem hk, ?_⟩, rfl⟩
    rw [← e1, h]; simp
  unfold frB
  rw [List.all_eq_false]
  exact ⟨_, hm, by simpa using h2⟩
theorem frB_yes {L : Flds} (h : ∀ d ∈ frs L, d.length = 52) : frB L = true := by
  unfold frB
  rw [List.all_eq_true]
  intro d hd
  simpa using h d hd
set_option maxRecDepth 100000 in
set_option maxHeartbeats 16000000 in
theorem acc_some2 (w : World) {lo bc g1 g2 : Nat} {k0 k1 k2 k3 N : Int} {T : List CkT} {I : List (List Int)} {Ac A2c : Option Addr} {nc cc n2c c2c : Nat} (hC : ClX w lo bc g1 g2 k0 k1 k2 k3 T N I Ac nc cc A2c n2c c2c) (hk2 : U64 k2) (hk3 : U64 k3) (hR : Rnd w) (hn8 : nc ≤ 8) (hn28 : n2c ≤ 8)
    (A : Option Addr) (n c : Nat) (b : List Int) (hn : b.length = n) (h : Bs w 0 w.heap.size A b) (hnc : n ≤ c) (hc : c ≤ 9223372036854775807) (hm : n ≤ 1000000) (hE : spE b = 0) (l v m st po pr rd rp id ref org rec xmt : Int) (hV : dcV b = ntp l v m st po pr rd rp id ref org rec xmt) (hT : prvB k2 k3 (spB b) (spA b) = true) (k : Nat) (hk : k < n2c) (hF : fiI I (spI b) = k) :
    Calls Tryd.prog 24 #[.pointer (some ⟨bc, 0, none⟩), .slice A n c] w fun e w' => (frB (spL b) = false ∧ e = .returned (.tuple #[ntp0, .slice none 0 0, .int .i64 7]) ∧ Below w.heap.size w w') ∨
          (frB (spL b) = true ∧ ∃ g1' T' Ac' nc' cc' c2c' P1 p1 q1, e = .returned (.tuple #[ntp l v m st po pr rd rp id ref org rec xmt, .slice P1 p1 q1, .int .i64 0]) ∧ (spL b).length = p1 ∧ XO w' w.heap.size P1 q1 (spL b) ∧ ClX w' lo bc g1' g2 k0 k1 k2 k3 T' N (I.take k ++ I.drop (k + 1)) Ac' nc' cc' A2c (n2c - 1) c2c' ∧
            T'.map (fun t : CkT => t.2.2) = ckN (T.map fun t : CkT => t.2.2) (frs (spL b)) ∧ Kp w [bc, g1, g2] w' ∧ (g1' = g1 ∨ w.heap.size ≤ g1') ∧ ∀ t ∈ T', t ∈ T ∨ w.heap.size ≤ t.1) := by
  have hS := fun W hB => split_ok A n c b W hn hB hnc hc hm hE l v m st po pr rd rp id ref org rec xmt hV
  obtain ⟨hI16, hA12⟩ : (spI b).length = 16 ∧ (spA b).length = 12 := by
    rcases spE_cases b with ⟨h1, h2⟩ | ⟨h1, h2, h3⟩ | ⟨h1, h2, h3, h4⟩ | ⟨h1, h2, h3, h4, h5⟩
    · exact absurd (h2.symm.trans hE) h1
    · exact absurd (h3.symm.trans hE) h2
    · rw [h4] at hE; cases hE
    · exact ⟨h4, h3⟩
  have hDl := spB_len hn
  have hDb : Bs w 0 w.heap.size A (spB b) := h.take _
  have hP := fun A1 n1 c1 A2 n2 c2 A4 c4 W h3 h4 hc4 hcc4 hR => proved_any l v m st po pr rd rp id ref org rec xmt A1 n1 c1 A2 n2 c2 A (n - 12) c A4 c4 k2 k3 (spB b) (spA b) W hDl h3 (by omega) (by omega) hc hA12 h4 hc4 hcc4 hk2 hk3 hR
  generalize hPV : prvB k2 k3 (spB b) (spA b) = PV at hP
  generalize spB b = D at hP hDb
  generalize hID : spI b = ID at hS hI16
  generalize spA b = AU at hS hP hA12
  have hL16 := spL_len h.byt
  generalize hLL : spL b = L at hS hL16
  have hHI := Lib.hid hI16
  have hHA := Lib.hid hA12
  have HID := Lib.hid hID
  have HLL := Lib.hid hLL
  have HPV := Lib.hid hPV
  clear hE hV hn hI16 hA12 hDl hID hLL hPV
  try rw [HLL.out]
  have hPV' : PV = true := HPV.out.symm.trans hT
  subst hPV'
  rw [HID.out] at hF
  have HF := Lib.hid hF
  clear hT HPV hF HLL
  go_enter Tryd.func24, Tryd.ntmps24
  go_wp2_with (first
    | (refine wpl_alloc (by rfl) 27 (by rfl) (.agg (zN).toArray) (zN) zeroNtp rfl ?_; intro w1 J1 s1 b1)
    | (go_at_call 30; ((with_reducible refine (hS _ ((h.below b1 (Nat.le_refl _)).wide (Nat.le_refl _) b1.size)).mono ?_); rintro e w2 ⟨P1, p1, q1, P2, q2, P4, q4, rfl, hL1, X2, OI2, OA2, b2⟩; (have J2 := J1.below b2 (by omega)); (have B2 := b1.trans (b2.mono b1.size))))
    | ((refine wpl_alloc (by rfl) 75 (by rfl) (.agg (ptZ).toArray) (ptZ) zeroPt rfl ?_; intro w3 T3 s3 b3); (have J3 := J2.below b3 J2.lt); (have B3 := B2.trans (b3.mono B2.size)))
    | ((refine wpl_store (by rfl) 75 _ _ (by rfl) w2.heap.size (by rfl) _ (by rfl) _ rfl 75 _ T3 (by rfl) _ sizePt (by rfl) (by simp [Value.oneCell']) ?_; intro w4 T4 s4 g4); (have J4 := J3.but g4 (Nat.ne_of_lt J2.lt)); (have B4 := B3.trans (g4.below B3.size B2.size)); (have hl12 : w.heap.size < w1.heap.size := J1.lt)))
  have B24 : Below w2.heap.size w2 w4 := b3.trans (g4.below (Nat.le_of_lt s3) (Nat.le_refl _))
  have X4 := X2.below B24 (Nat.le_refl _)
  have OI4 := OI2.below B24 (Nat.le_refl _)
  have OA4 := OA2.below B24 (Nat.le_refl _)
  have hC4 := hC.below B4 (Nat.le_refl _)
  have hR4 := hR.below B4 hR.lt
  have hD4 := (hDb.below B4 (Nat.le_refl _)).wide (Nat.le_refl _) B4.size
  have z12 := b2.size
  have zq2 := OI2.cap_le
  have zq4 := OA2.cap_le
  have zm4 := OA2.cap_max
  rw [hHI.out] at zq2
  rw [hHA.out] at zq4
  have z24 := T4.lt
  clear b1 b2 b3 g4 B2 B3 X2 OI2 OA2 J1 J2 J3 T3 hS s1 s3 s4 B24
  generalize hpb : w2.heap.size = pb at *
  refine wp_region_heldL (fun y => Blk y pb 75 (ptL l v m st po pr rd rp id ref org rec xmt P1 p1 q1 P2 16 q2 A (n - 12) c P4 12 q4) ∧ Blk y bc 100 (clL k0 k1 k2 k3 Ac nc cc N A2c n2c c2c)) 7 (by kernel_rfl) rfl ⟨T4.drew, hC4.blk.drew⟩ fun hHeld => ?_
  simp only [List.replicate]
  refine wpH_t 0 (.agg (ptL l v m st po pr rd rp id ref org rec xmt P1 p1 q1 P2 16 q2 A (n - 12) c P4 12 q4).toArray) (by exact gE rfl) (by kernel_rfl) (by intro _ _ _ h; exact h) (yieldsIf_load_mid (by rfl) 75 _ (by rfl) pb 0 (by rfl) (ptL l v m st po pr rd rp id ref org rec xmt P1 p1 q1 P2 16 q2 A (n - 12) c P4 12 q4) _ (fun w' h => h.1.range) Tryd.underlying75 rfl sizePt) (by assumption) ?_
  (try simp only [Act.put, zs0, zs1, zs2])
  (refine wpH_t 1 _ (by exact gE rfl) (by kernel_rfl) (by intro _ _ _ h; exact h) (Or.inl ⟨by rfl, (by intro _ h; (try dsimp only at h); go_simp; first | done | with_reducible rfl)⟩) (by assumption) ?_; (try simp only [Act.put, zs0, zs1, zs2]))
  (refine wpH_t 2 _ (by exact gE rfl) (by kernel_rfl) (by intro _ _ _ h; exact h) (Or.inl ⟨by rfl, (by intro _ h; (try dsimp only at h); go_simp; first | done | with_reducible rfl)⟩) (by assumption) ?_; (try simp only [Act.put, zs0, zs1, zs2]))
  (refine wpH_t 3 _ (by exact gE rfl) (by kernel_rfl) (by intro _ _ _ h; exact h) (Or.inl ⟨by rfl, (by intro _ h; (try dsimp only at h); go_simp; first | done | with_reducible rfl)⟩) (by assumption) ?_; (try simp only [Act.put, zs0, zs1, zs2]))
  refine wpH_take (i := 4) (v := .agg (keyL k2 k3).toArray) (by exact gE rfl) (by kernel_rfl) (by kernel_rfl) (by kernel_rfl) (by intro _ _ _ h; exact h) (yieldsIf_load_mid (by rfl) 29 _ (by rfl) bc 2 (by rfl) (keyL k2 k3) _ (fun w' h => Blk.mid h.2 2 (keyL k2 k3) rfl) Tryd.underlying29 rfl sizeKey) (by assumption) ?_
  (try simp only [Act.put, zs0, zs1, zs2])
  have hPE := hP P1 p1 q1 P2 16 q2 P4 q4 w4.drew hD4.drew ((OA4.bs.wide (Nat.zero_le _) (Nat.le_refl _)).drew) zq4 zm4 hR4.drew
  (refine wpH_one (i := 5) (by exact gE rfl) (by kernel_rfl) (by rfl) ?_; (go_simp; (with_reducible refine hPE.mono ?_); rintro e w5 ⟨rfl, b5⟩; refine ⟨⟨T4.drew.below b5 T4.lt, hC4.blk.drew.below b5 hC4.blk.lt⟩, ?_⟩); (try simp only [Act.put, zs0, zs1, zs2]))
  have hHeld5 : Blk w5 pb 75 (ptL l v m st po pr rd rp id ref org rec xmt P1 p1 q1 P2 16 q2 A (n - 12) c P4 12 q4) ∧ Blk w5 bc 100 (clL k0 k1 k2 k3 Ac nc cc N A2c n2c c2c) := ⟨T4.drew.below b5 T4.lt, hC4.blk.drew.below b5 hC4.blk.lt⟩
  (refine wpH_t 6 _ (by exact gE rfl) (by kernel_rfl) (by intro _ _ _ h; exact h) (Or.inl ⟨by rfl, (by intro _ h; (try dsimp only at h); go_simp; first | done | with_reducible rfl)⟩) (by assumption) ?_; (try simp only [Act.put, zs0, zs1, zs2]))
  refine wpH_done (by kernel_rfl) ?_ _
  have T5 := hHeld5.1
  have X5 := X4.drew.below b5 (Nat.le_refl _)
  have OI5 := OI4.drew.below b5 (Nat.le_refl _)
  have J5 := J4.drew.below b5 J4.lt
  have hC5 := hC4.drew.below b5 (Nat.le_refl _)
  have B5 := B4.drew.trans (b5.mono B4.size)
  have z45 : w4.heap.size ≤ w5.heap.size := b5.size
  clear hHeld hHeld5 hPE hP X4 OI4 OA4 hC4 hR4 hD4 J4 T4 b5 B4
  have k0' : (0 : Int) ≤ k := by omega
  have hlk : decide ((k : Int) < 0) = false := decide_eq_false (by omega)
  have hFi := find_id w5 hC5 P2 q2 ID hHI.out (OI5.bs.wide (Nat.zero_le _) (Nat.le_refl _)) (by omega)
  rw [HF.out] at hFi
  go_wp2_with (first
    | (refine wpl_loadf (by rfl) 23 _ (by rfl) pb 14 (by rfl) _ _ T5 _ rfl _ Tryd.underlying23 rfl ?_)
    | (go_at_call 49; ((with_reducible refine hFi.mono ?_); rintro e w6 ⟨rfl, b6⟩; (have J6 := J5.below b6 J5.lt); (have T6 := T5.below b6 T5.lt); (have B6 := B5.trans (b6.mono B5.size))))
    | (refine wpl_loadf (by rfl) 42 _ (by rfl) pb 13 (by rfl) _ _ T6 _ rfl _ Tryd.underlying42 rfl ?_))
  have hC6 := hC5.below b6 (Nat.le_refl _)
  have X6 := X5.below b6 (Nat.le_refl _)
  have zq : w1.heap.size ≤ w6.heap.size := by have := b6.size; omega
  have zp6 := T6.lt
  have hcap := X6.cap
  rw [hL1] at hcap
  have hp1 : p1 ≤ 16 := by omega
  clear hL16
  clear hcap
  clear hC5 X5 OI5 J5 T5 B5 b6 hFi
  go_loopw [10, 45] (fun fv i wr => ∃ j : Nat, j ≤ p1 ∧ i = .int .i64 j ∧ ∃ F AF nF cF gF, FrI w6 wr w1.heap.size fv (frs (L.take j)) F AF nF cF gF) (fun _ i _ => p1 - (intOf i).toNat)
  case atStart => exact ⟨0, by omega, rfl, [], none, 0, 0, w6.heap.size, rfl, rfl, Rw.nil _ _ _ _, Nat.le_refl _, fun t ht => by (cases ht), rfl, Below.refl _ _⟩
  case round =>
    obtain ⟨j, hj, rfl, F, AF, nF, cF, gF, hFr⟩ := hrel
    obtain ⟨wo, rfl⟩ : ∃ wo : World, wo = wr := ⟨wr, rfl⟩
    obtain rfl := hFr.val
    have f7 := hFr.bel
    have zo6 := f7.size
    by_cases hlt : j < p1
    · obtain ⟨gg, Ak, ck, rfl, hg1, hg2, hrg0, hOk⟩ := X6.at (k := j) (by omega)
      have hrg : wo.rangeAt gg (j * 2) [.int .i64 (kdL L j), .slice Ak (dtL L j).length ck] := by
        intro q v hv
        exact kept_cell f7 (hrg0 q v hv) hg2
      have hi0 : (0 : Int) ≤ j := by omega
      have hi1 : (j : Int) < p1 := by omega
      obtain ⟨D, hDl⟩ : ∃ D, (dtL L j).length = D := ⟨_, rfl⟩
      obtain ⟨K, hK⟩ : ∃ K, kdL L j = K := ⟨_, rfl⟩
      rw [hDl, hK] at hrg
      by_cases h7 : K = 772
      · have h7' : (K != 772) = false := by simp [h7]
        by_cases h52 : D = 52
        · as_aux_lemma =>
          have h52' : ((D : Int) != 52) = false := by simp [h52]
          have hR := frs_yes (L := L) (k := j) (by omega) (by rw [hK]; exact h7)
          have HR := Lib.hid hR
          have hdl : (dtL L j).length = 52 := hDl.trans h52
          have hdb : Bs w6 w1.heap.size w6.heap.size Ak (dtL L j) := hOk.bs
          have hn16 : nF ≤ 1000000 := frs_le hFr (by omega)
          generalize dtL L j = dd at HR hdl hdb
          subst h52
          clear h7 hR hK hDl hOk hrg0
          go_wp2_with (first
            | (refine wpl_loadr (by rfl) 62 _ (by rfl) gg (j * 2) (by rfl) _ hrg _ Tryd.underlying62 rfl _ sizeExt (by rfl) ?_)
            | ((refine wpl_alloc (by rfl) 62 (by rfl) (.agg (exC 0 none 0 0).toArray) (exC 0 none 0 0) zeroExt rfl ?_; intro wa Ja sa ba))
            | (refine wpl_store (by rfl) 62 _ _ (by rfl) wo.heap.size (by rfl) _ (by rfl) (exC K Ak 52 ck) rfl 62 _ Ja (by rfl) _ sizeExt (by rfl) (by simp [Value.oneCell']) ?_; intro wb Jb sb gb)
            | (refine wpl_loadf (by rfl) 3 _ (by rfl) wo.heap.size 0 (by rfl) _ _ Jb _ rfl _ Tryd.underlying3 rfl ?_)
            | (refine wpl_loadf (by rfl) 23 _ (by rfl) wo.heap.size 1 (by rfl) _ _ Jb _ rfl _ Tryd.underlying23 rfl ?_)
            | (refine wpl_append_rw (by rfl) 51 23 (.slice none 0 0) 24 (.tmp 57) (.tmp 60) (by rfl) Tryd.underlying51 infoSl (by rfl) (by omega) (by rfl) ((hFr.row.below (by omega) (ba.trans (But.below (g := wo.heap.size) gb (Nat.le_of_lt sa) (Nat.le_refl _))) (Nat.le_refl _)).alloc (by omega) (.cells #[.slice Ak 52 ck] 23)) ⟨wb.heap.size, 0, none⟩ 1 1 [.slice Ak 52 ck] (by rfl) rfl (by omega) (cells2_of (Blk.new wb 23 #[.slice Ak 52 ck] _ rfl)) (by simp [Value.oneCell']) (by omega) (by omega) (by simp) ?_; intro g9 A9 c9 w9 R9 K9 G9 L9))
          have bb : Below wo.heap.size wo (wb.alloc (.cells #[.slice Ak 52 ck] 23)) := (ba.trans (But.below (g := wo.heap.size) gb (Nat.le_of_lt sa) (Nat.le_refl _))).alloc (by omega) _
          have hF2 := hFr.push bb hdb hdl R9 K9 G9
          rw [← HR.out] at hF2
          exact ⟨⟨j + 1, by omega, by go_num, _, A9, nF + 1, c9, g9, hF2⟩, by simp [intOf]; omega⟩
        · as_aux_lemma =>
          have h52' : ((D : Int) != 52) = true := by simp; omega
          have hFB := Lib.hid (frB_no (L := L) (k := j) (by omega) (by rw [hK]; exact h7) (by rw [hDl]; exact h52))
          have B7 := B6.trans (f7.mono B6.size)
          have J7 := J6.below f7 J6.lt
          clear h7 h52 hK hDl hOk hrg0
          go_wp2_with (first
            | (refine wpl_loadr (by rfl) 62 _ (by rfl) gg (j * 2) (by rfl) _ hrg _ Tryd.underlying62 rfl _ sizeExt (by rfl) ?_)
            | ((refine wpl_alloc (by rfl) 62 (by rfl) (.agg (exC 0 none 0 0).toArray) (exC 0 none 0 0) zeroExt rfl ?_; intro wa Ja sa ba))
            | (refine wpl_store (by rfl) 62 _ _ (by rfl) wo.heap.size (by rfl) _ (by rfl) (exC K Ak D ck) rfl 62 _ Ja (by rfl) _ sizeExt (by rfl) (by simp [Value.oneCell']) ?_; intro wb Jb sb gb)
            | (refine wpl_loadf (by rfl) 3 _ (by rfl) wo.heap.size 0 (by rfl) _ _ Jb _ rfl _ Tryd.underlying3 rfl ?_)
            | (refine wpl_loadf (by rfl) 23 _ (by rfl) wo.heap.size 1 (by rfl) _ _ Jb _ rfl _ Tryd.underlying23 rfl ?_)
            | ((refine wpl_store (by rfl) 27 _ _ (by rfl) w.heap.size (by rfl) _ (by rfl) _ rfl 27 _ ((J7.below ba J7.lt).but gb (Nat.ne_of_lt J7.lt)) (by rfl) _ sizeNtp (by rfl) (by simp [Value.oneCell']) ?_; intro wc Jc sc gc)))
          refine bodyPost_ret (res_cxy Tryd.results24 (by rfl) Jc Tryd.underlying27 rfl sizeNtp (by rfl) (by rfl) (by rfl)) rfl ?_
          exact .inl ⟨hFB.out, rfl, ((B7.trans (ba.mono B7.size)).trans (But.below (g := wo.heap.size) gb (by have := B7.size; omega) B7.size)).trans (gc.below (by have := B7.size; omega) (Nat.le_refl _))⟩
      · as_aux_lemma =>
        have h7' : (K != 772) = true := by simp [h7]
        have hR := frs_no (L := L) (k := j) (by omega) (by rw [hK]; exact h7)
        have HR := Lib.hid hR
        clear h7 hR hK hDl hOk hrg0
        go_wp2_with (first
          | (refine wpl_loadr (by rfl) 62 _ (by rfl) gg (j * 2) (by rfl) _ hrg _ Tryd.underlying62 rfl _ sizeExt (by rfl) ?_)
          | ((refine wpl_alloc (by rfl) 62 (by rfl) (.agg (exC 0 none 0 0).toArray) (exC 0 none 0 0) zeroExt rfl ?_; intro wa Ja sa ba))
          | (refine wpl_store (by rfl) 62 _ _ (by rfl) wo.heap.size (by rfl) _ (by rfl) (exC K Ak D ck) rfl 62 _ Ja (by rfl) _ sizeExt (by rfl) (by simp [Value.oneCell']) ?_; intro wb Jb sb gb)
          | (refine wpl_loadf (by rfl) 3 _ (by rfl) wo.heap.size 0 (by rfl) _ _ Jb _ rfl _ Tryd.underlying3 rfl ?_))
        exact ⟨⟨j + 1, by omega, by go_num, F, AF, nF, cF, gF, by rw [HR.out]; exact hFr.step (ba.trans (But.below (g := wo.heap.size) gb (Nat.le_of_lt sa) (Nat.le_refl _)))⟩, by simp [intOf]; omega⟩
    · obtain rfl : j = p1 := by omega
      have hsay := hFr.say
      rw [List.take_of_length_le (by omega)] at hsay
      have hFB := Lib.hid (frB_yes (L := L) (fun d hd => by
        rw [← hsay] at hd
        obtain ⟨t, ht, rfl⟩ := List.mem_map.1 hd
        exact (hFr.dat t ht).2))
      have HSay := Lib.hid hsay
      clear hsay
      have hC7 := hC6.below f7 (Nat.le_refl _)
      have X7 := X6.below f7 (Nat.le_refl _)
      have J7 := J6.below f7 J6.lt
      have T7 := T6.below f7 T6.lt
      have B7 := B6.trans (f7.mono B6.size)
      have hF7 := hFr.dat
      have R7 := hFr.row
      have hnF : nF ≤ 16 := by have := frs_le16 HSay.out hFr.len; omega
      have hgF := hFr.new
      have hFl := hFr.len
      obtain ⟨o2, hA2, _⟩ := hC7.ws.at (k := k) hk (by omega)
      subst hA2
      have hk1 : IntKind.i64.wrap ((k : Int) + 1) = (k : Int) + 1 := IntWalk.i64_in _ (by omega)
      have hkc : (k : Int) ≤ c2c := by have := hC7.ws.2.1; omega
      have hk2' : (k : Int) + 1 ≤ n2c := by omega
      have hk3' : ((k : Int) + 1).toNat = k + 1 := by omega
      have hk4 : (0 : Int) ≤ (k : Int) + 1 := by omega
      obtain ⟨AB, hAB⟩ : ∃ AB, (if c2c = k + 1 then some (⟨g2, o2, none⟩ : Addr) else some ⟨g2, o2 + (k + 1) * 16, none⟩) = AB := ⟨_, rfl⟩
      clear hFr hC6 X6 J6 T6 B6
      go_wp2_with fail
      refine wp_region_S (fun y => y.cell? ⟨bc, 6, none⟩ = some (.slice (some ⟨g2, o2, none⟩) n2c c2c)) 17 18 (by kernel_rfl) rfl ?_
      have hHeld : wo.drew.cell? ⟨bc, 6, none⟩ = some (.slice (some ⟨g2, o2, none⟩) n2c c2c) := hC7.drew.blk.cell rfl
      simp only [List.replicate]
      (refine wpS_t 0 _ (by exact gE rfl) (by kernel_rfl) (by intro _ _ _ h; exact h) (Or.inl ⟨by rfl, (by intro _ h; (try dsimp only at h); go_simp; first | done | with_reducible rfl)⟩) (by assumption) ?_; (try simp only [Act.put, zs0, zs1, zs2]))
      (refine wpS_t 1 _ (by exact gE rfl) (by kernel_rfl) (by intro _ _ _ h; exact h) (Or.inl ⟨by rfl, (by intro _ h; (try dsimp only at h); go_simp; first | done | with_reducible rfl)⟩) (by assumption) ?_; (try simp only [Act.put, zs0, zs1, zs2]))
      (refine wpS_t 2 _ (by exact gE rfl) (by kernel_rfl) (by intro _ _ _ h; exact h) (Or.inl ⟨by rfl, (by intro _ h; (try dsimp only at h); go_simp; first | done | with_reducible rfl)⟩) (by assumption) ?_; (try simp only [Act.put, zs0, zs1, zs2]))
      (refine wpS_t 3 _ (by exact gE rfl) (by kernel_rfl) (by intro _ _ _ h; exact h) (Or.inl ⟨by rfl, (by intro _ h; (try dsimp only at h); go_simp; first | done | with_reducible rfl)⟩) (by assumption) ?_; (try simp only [Act.put, zs0, zs1, zs2]))
      (refine wpS_t 4 _ (by exact gE rfl) (by kernel_rfl) (by intro _ _ _ h; exact h) (Or.inl ⟨by rfl, (by intro _ h; (try dsimp only at h); go_simp; first | done | with_reducible rfl)⟩) (by assumption) ?_; (try simp only [Act.put, zs0, zs1, zs2]))
      (refine wpS_t 5 _ (by exact gE rfl) (by kernel_rfl) (by intro _ _ _ h; exact h) (Or.inl ⟨by rfl, (by intro _ h; (try dsimp only at h); go_simp; first | done | with_reducible rfl)⟩) (by assumption) ?_; (try simp only [Act.put, zs0, zs1, zs2]))
      (refine wpS_t 6 _ (by exact gE rfl) (by kernel_rfl) (by intro _ _ _ h; exact h) (Or.inl ⟨by rfl, (by intro _ h; (try dsimp only at h); go_simp; first | done | with_reducible rfl)⟩) (by assumption) ?_; (try simp only [Act.put, zs0, zs1, zs2]))
      (refine wpS_t 7 _ (by exact gE rfl) (by kernel_rfl) (by intro _ _ _ h; exact h) (Or.inl ⟨by rfl, (by intro _ h; (try dsimp only at h); go_simp; first | done | with_reducible rfl)⟩) (by assumption) ?_; (try simp only [Act.put, zs0, zs1, zs2]))
      (refine wpS_t 8 _ (by exact gE rfl) (by kernel_rfl) (by intro _ _ _ h; exact h) (Or.inl ⟨by rfl, (by intro _ h; (try dsimp only at h); go_simp; first | done | with_reducible rfl)⟩) (by assumption) ?_; (try simp only [Act.put, zs0, zs1, zs2]))
      (refine wpS_t 9 _ (by exact gE rfl) (by kernel_rfl) (by intro _ _ _ h; exact h) (Or.inl ⟨by rfl, (by intro _ h; (try dsimp only at h); go_simp; first | done | with_reducible rfl)⟩) (by assumption) ?_; (try simp only [Act.put, zs0, zs1, zs2]))
      (refine wpS_t 10 _ (by exact gE rfl) (by kernel_rfl) (by intro _ _ _ h; exact h) (Or.inl ⟨by rfl, (by intro _ h; (try dsimp only at h); go_simp; first | done | with_reducible rfl)⟩) (by assumption) ?_; (try simp only [Act.put, zs0, zs1, zs2]))
      (refine wpS_t 11 _ (by exact gE rfl) (by kernel_rfl) (by intro _ _ _ h; exact h) (Or.inl ⟨by rfl, (by intro _ h; (try dsimp only at h); go_simp; first | done | with_reducible rfl)⟩) (by assumption) ?_; (try simp only [Act.put, zs0, zs1, zs2]))
      (refine wpS_t 12 _ (by exact gE rfl) (by kernel_rfl) (by intro _ _ _ h; exact h) (Or.inl ⟨by rfl, (by intro _ h; (try dsimp only at h); go_simp; first | done | with_reducible rfl)⟩) (by assumption) ?_; (try simp only [Act.put, zs0, zs1, zs2]))
      (refine wpS_t 13 _ (by exact gE rfl) (by kernel_rfl) (by intro _ _ _ h; exact h) (Or.inl ⟨by rfl, (by intro _ h; (try dsimp only at h); go_simp; first | done | with_reducible rfl)⟩) (by assumption) ?_; (try simp only [Act.put, zs0, zs1, zs2]))
      have hABe : AB = if c2c = k + 1 then (some ⟨g2, o2, none⟩ : Option Addr) else (some ⟨g2, o2, none⟩ : Option Addr).map (·.add ((k + 1) * 16)) := by rw [← hAB, Option.map_some, Addr.add_lit]
      have hbg : bc ≠ g2 := by
        have hc2 : c2c ≠ 0 := by have := hC7.ws.2.1; omega
        have h2 := (hC7.ws.lt hc2 (by omega)).2
        intro e
        exact h2 (by rw [← e]; simp)
      (refine wpS_one (i := 14) (by exact gE rfl) (by kernel_rfl) (by rfl) ?_; (refine wp_delete_rw 98 101 (.agg (byC (List.replicate 16 0)).toArray) 16 (.tmp 69) (.tmp 76) (by rfl) Tryd.underlying98 infoId (by omega) hC7.drew.ws k hk (flat_one I) AB _ _ (by rfl) (by rfl) hABe (by rfl) ?_; intro w8 R8 g8 s8; refine ⟨(hC7.drew.blk.but g8 hbg).cell rfl, ?_⟩); (try simp only [Act.put, zs0, zs1, zs2]))
      have hHeld8 : w8.cell? ⟨bc, 6, none⟩ = some (.slice (some ⟨g2, o2, none⟩) n2c c2c) := (hC7.drew.blk.but g8 hbg).cell rfl
      have J8 := hC7.drew.blk.but g8 hbg
      obtain ⟨w9, hw9⟩ : ∃ w9, w9 = w8.setCell ⟨bc, 6, none⟩ (.slice (some ⟨g2, o2, none⟩) (n2c - 1) c2c) := ⟨_, rfl⟩
      (refine wpS_one (i := 15) (by exact gE rfl) (by kernel_rfl) (by rfl) ?_; (refine wp_val1 (.pointer (some ⟨bc, 0, none⟩)) (by kernel_rfl) ?_; refine ⟨hHeld8, ?_⟩); (try simp only [Act.put, zs0, zs1, zs2]))
      (refine wpS_one (i := 16) (by exact gE rfl) (by kernel_rfl) (by rfl) ?_; (refine wp_val1 (.pointer (some ⟨bc, 6, none⟩)) (by kernel_rfl) ?_; refine ⟨hHeld8, ?_⟩); (try simp only [Act.put, zs0, zs1, zs2]))
      (refine wpS_st (i := 17) (by exact gE rfl) (by kernel_rfl) (by rfl) (by kernel_rfl) ?_; (refine wp_storef1 98 (.tmp 79) (.tmp 77) (by rfl) bc 6 (by rfl) (.slice (some ⟨g2, o2, none⟩) (n2c - 1) c2c) (by rfl) (by rfl) (by simp [Value.oneCell']) 100 _ J8 (show 6 < 7 by omega) sizeIds ?_; rw [← hw9]); (try simp only [Act.put, zs0, zs1, zs2]))
      refine wpS_done (by kernel_rfl) ?_ _
      obtain ⟨hC9, hK9⟩ := hC7.drew.wdel hk R8 g8 hw9
      have zw1 : w.heap.size ≤ w1.heap.size := Nat.le_of_lt hl12
      have zbc := hC.blk.lt
      have zg1 := hC.lt1
      have zg2 := hC.lt2
      have hn1 : ∀ q, w.heap.size ≤ q → q ∉ [bc, g2] := fun q hq => by simp; omega
      have X9 := X7.drew.keep fun q h1 h2 => hK9.block q h2 (hn1 q (by omega))
      have J9 := hK9.blk J7.drew (hn1 _ (Nat.le_refl _))
      have T9 := hK9.blk T7.drew (hn1 _ (by omega))
      have R9 := R7.drew.kp hK9 (by omega) (fun _ _ => hn1 _ (by omega))
      have hF9 : ∀ t ∈ F, Bs w9 w1.heap.size w6.heap.size t.1 t.2.2 ∧ t.2.2.length = 52 := fun t ht => ⟨hK9.bs ((hF7 t ht).1.below f7 (Nat.le_refl _)).drew f7.size (fun q hq => .inl (by rcases mem2 hq with e | e <;> omega)), (hF7 t ht).2⟩
      have K9 : Kp w [bc, g1, g2] w9 := kp_trans2 (Kp.of_below B7).drew hK9 (fun q hq => .inr (by rcases mem2 hq with rfl | rfl <;> simp))
      have z69 : w6.heap.size ≤ w9.heap.size := Nat.le_trans f7.size hK9.size
      have z9 : w.heap.size ≤ w9.heap.size := K9.size
      have hCl := hC.tn
      clear hC7 X7 J7 T7 R7 hF7 J8 hHeld hHeld8 R8 g8 s8 hK9 hw9 hABe hAB hk1 hkc hk2' hk3' hk4 B7
      clear f7 hC
      go_wp2_with fail
      go_loopw [82] (fun i wr => ∃ j' : Nat, j' ≤ nF ∧ i = .int .i64 j' ∧ ∃ g1x Tx Ax nx cx, ClX wr lo bc g1x g2 k0 k1 k2 k3 Tx N (I.take k ++ I.drop (k + 1)) Ax nx cx (some ⟨g2, o2, none⟩) (n2c - 1) c2c ∧ Hid (Tx.map (fun t : CkT => t.2.2) = ckN (T.map fun t : CkT => t.2.2) ((frs L).take j')) ∧ Kp w9 [bc, g1] wr ∧ (g1x = g1 ∨ w9.heap.size ≤ g1x) ∧ Hid (∀ t ∈ Tx, t ∈ T ∨ w.heap.size ≤ t.1)) (fun i _ => nF - (intOf i).toNat)
      case atStart => exact ⟨0, by omega, rfl, g1, T, Ac, nc, cc, hC9, (ckN_start (by rw [List.length_map]; omega)).symm, Kp.refl _ _, .inl rfl, fun t ht => .inl ht⟩
      case round =>
        obtain ⟨j', hj', rfl, g1x, Tx, Ax, nx, cx, hC, hTx, hKr, hgx, hTn⟩ := hrel
        clear hC9
        obtain ⟨wo, rfl⟩ : ∃ wo : World, wo = wr := ⟨wr, rfl⟩
        have hm1 : ∀ q, w.heap.size ≤ q → q ∉ [bc, g1] := fun q hq => by simp; omega
        have hRl : (frs L).length = nF := by rw [← HSay.out, List.length_map]; exact hFl
        have hTl : Tx.length = nx := hC.tn
        have hnx : nx ≤ 8 := by have h1 := congrArg List.length hTx.out; rw [List.length_map, hTl] at h1; have h2 := ckN_len (T.map fun t : CkT => t.2.2) ((frs L).take j'); omega
        by_cases hlt' : j' < nF
        · have R10 := R9.kp hKr (by omega) (fun _ _ => hm1 _ (by omega))
          obtain ⟨oF, hAF, hatF⟩ := R10.at (k := j') hlt' (by omega)
          subst hAF
          have hmF : F[j'] ∈ F := List.getElem_mem (by omega)
          have hsF : (frs L)[j']'(by omega) = (F[j']'(by omega)).2.2 := by
            have := HSay.out
            simp only [← this, List.getElem_map]
          have hcF : wo.cell? ⟨gF, oF + j', none⟩ = some (ftV (F[j']'(by omega))) := by
            have h1 := hatF 0 (by omega)
            simp only [Nat.mul_one, Nat.add_zero] at h1
            rw [h1, List.getElem?_map, List.getElem?_eq_getElem (by omega)]
            rfl
          obtain ⟨hB0, hl⟩ := hF9 _ hmF
          have hBk0 := hKr.bs hB0 z69 (fun q hq => .inl (by rcases mem2 hq with e | e <;> omega))
          have zor := hKr.size
          generalize hFj : F[j']'(by omega) = tF at hcF hsF hl hBk0
          obtain ⟨Ak, ck, l'⟩ := tF
          have hcF' : wo.cell? ⟨gF, oF + j', none⟩ = some (.slice Ak 52 ck) := by rw [hcF]; show some (Value.slice Ak l'.length ck) = _; rw [hl]
          have hBk : Bs wo 0 wo.heap.size Ak l' := hBk0.wide (Nat.zero_le _) (by omega)
          have hl' : l'.length = 52 := hl
          have hsF' : (frs L)[j']'(by omega) = l' := hsF
          have q0 : (0 : Int) ≤ j' := by omega
          have q1' : (j' : Int) < nF := by omega
          have hBw := hC.blk
          clear hB0 hmF hatF hcF hFj hBk0 hl hsF
          by_cases h8 : nx < 8
          · as_aux_lemma =>
            have d8 : decide ((nx : Int) < 8) = true := decide_eq_true (by omega)
            have hnw := ckN_lt hTx.out (by rw [List.length_map]; omega) (show j' < (frs L).length by omega)
            rw [hsF'] at hnw
            have HNw := Lib.hid hnw
            have hcl := fun W hB => gclone_any Ak 52 ck l' W hl' hB (by omega)
            clear h8 hnw hTx hsF' hF9 R9 X9
            go_wp2_with (first | (refine wpl_loadf (by rfl) 51 _ (by rfl) bc 4 (by rfl) _ _ hBw _ rfl _ Tryd.underlying51 rfl ?_))
            have hBd : Bs wo.drew 0 wo.drew.heap.size Ak l' := hBk.drew
            refine wp_region_S (fun y => y.cell? ⟨bc, 4, none⟩ = some (.slice Ax nx cx)) 11 12 (by kernel_rfl) rfl ?_
            have hHeld : wo.drew.cell? ⟨bc, 4, none⟩ = some (.slice Ax nx cx) := hC.drew.blk.cell rfl
            simp only [List.replicate]
            (refine wpS_t 0 _ (by exact gE rfl) (by kernel_rfl) (by intro _ _ _ h; exact h) (Or.inl ⟨by rfl, (by intro _ h; (try dsimp only at h); go_simp; first | done | with_reducible rfl)⟩) (by assumption) ?_; (try simp only [Act.put, zs0, zs1, zs2]))
            (refine wpS_t 1 _ (by exact gE rfl) (by kernel_rfl) (by intro _ _ _ h; exact h) (Or.inl ⟨by rfl, (by intro _ h; (try dsimp only at h); go_simp; first | done | with_reducible rfl)⟩) (by assumption) ?_; (try simp only [Act.put, zs0, zs1, zs2]))
            (refine wpS_t 2 _ (by exact gE rfl) (by kernel_rfl) (by intro _ _ _ h; exact h) (Or.inl ⟨by rfl, (by intro _ h; (try dsimp only at h); go_simp; first | done | with_reducible rfl)⟩) (by assumption) ?_; (try simp only [Act.put, zs0, zs1, zs2]))
            (refine wpS_t 3 _ (by exact gE rfl) (by kernel_rfl) (by intro _ _ _ h; exact h) (Or.inl ⟨by rfl, (by intro _ h; (try dsimp only at h); go_simp; first | done | with_reducible rfl)⟩) (by assumption) ?_; (try simp only [Act.put, zs0, zs1, zs2]))
            (refine wpS_t 4 _ (by exact gE rfl) (by kernel_rfl) (by intro _ _ _ h; exact h) (Or.inl ⟨by rfl, (by intro _ h; (try dsimp only at h); go_simp; first | done | with_reducible rfl)⟩) (by assumption) ?_; (try simp only [Act.put, zs0, zs1, zs2]))
            (refine wpS_t 5 _ (by exact gE rfl) (by kernel_rfl) (by intro _ _ _ h; exact h) (Or.inl ⟨by rfl, (by intro _ h; (try dsimp only at h); go_simp; first | done | with_reducible rfl)⟩) (by assumption) ?_; (try simp only [Act.put, zs0, zs1, zs2]))
            (refine wpS_one (i := 6) (by exact gE rfl) (by kernel_rfl) (by rfl) ?_; (go_simp; (with_reducible refine (hcl wo.drew hBd).mono ?_); rintro e w2 ⟨rfl, O2, b2, s2⟩; (have hC2 := hC.drew.below b2 (Nat.le_refl _)); refine ⟨hC2.blk.cell rfl, ?_⟩); (try simp only [Act.put, zs0, zs1, zs2]))
            (refine wpS_one (i := 7) (by exact gE rfl) (by kernel_rfl) (by rfl) ?_; (go_simp; refine ⟨hC2.blk.old.cell rfl, ?_⟩); (try simp only [Act.put, zs0, zs1, zs2]))
            obtain ⟨w3, hw3⟩ : ∃ w3, w3 = w2.alloc (.cells #[.slice (some ⟨wo.heap.size, 0, none⟩) 52 52] 23) := ⟨_, rfl⟩
            rw [← hw3]
            have O2 : Ow w2 wo.heap.size (some ⟨wo.heap.size, 0, none⟩) 52 l' := O2
            have s2 : wo.heap.size < w2.heap.size := s2
            have b3 : Below w2.heap.size w2 w3 := by rw [hw3]; exact (Below.refl _ _).alloc (Nat.le_refl _) _
            have N3 : Blk w3 w2.heap.size 23 [.slice (some ⟨wo.heap.size, 0, none⟩) 52 52] := by rw [hw3]; exact Blk.new w2 _ _ _ rfl
            have hC3 := hC2.below b3 (Nat.le_refl _)
            have O3 := O2.below b3 (Nat.le_refl _)
            have z3 := N3.lt
            have hb3 : bc ∉ fp cx g1x := fun hm => by
              obtain ⟨hc, e⟩ := fp_mem hm
              exact (hC3.cs.lt hc (by omega)).2 (by rw [← e]; simp)
            (refine wpS_one (i := 8) (by exact gE rfl) (by kernel_rfl) (by rfl) ?_; (refine wp_append_rw 51 23 (.slice none 0 0) 24 (.tmp 96) (.tmp 99) (by rfl) Tryd.underlying51 infoSl (by rfl) (by omega) (by rfl) hC3.cs ⟨w2.heap.size, 0, none⟩ 1 1 [.slice (some ⟨wo.heap.size, 0, none⟩) 52 52] (by rfl) rfl (by omega) (cells2_of N3) (by simp [Value.oneCell']) (by omega) (by omega) (by have := hC3.blk.lt; have := hC3.lt2; simp; omega) ?_; intro g4 A4 c4 w4 R4 K4 G4 L4; refine ⟨(K4.blk hC3.blk hb3).cell rfl, ?_⟩); (try simp only [Act.put, zs0, zs1, zs2]))
            have J4 := K4.blk hC3.blk hb3
            have hHeld4 : w4.cell? ⟨bc, 4, none⟩ = some (.slice Ax nx cx) := J4.cell rfl
            obtain ⟨w5, hw5⟩ : ∃ w5, w5 = w4.setCell ⟨bc, 4, none⟩ (.slice A4 (nx + 1) c4) := ⟨_, rfl⟩
            (refine wpS_one (i := 9) (by exact gE rfl) (by kernel_rfl) (by rfl) ?_; (go_simp); (try simp only [Act.put, zs0, zs1, zs2]))
            (refine wpS_one (i := 10) (by exact gE rfl) (by kernel_rfl) (by rfl) ?_; (go_simp); (try simp only [Act.put, zs0, zs1, zs2]))
            (refine wpS_st (i := 11) (by exact gE rfl) (by kernel_rfl) (by rfl) (by kernel_rfl) ?_; (refine wp_storef1 51 (.tmp 102) (.tmp 100) (by rfl) bc 4 (by rfl) (.slice A4 (nx + 1) c4) (by rfl) (by rfl) (by simp [Value.oneCell']) 100 _ J4 (show 4 < 7 by omega) sizeSls ?_; rw [← hw5]); (try simp only [Act.put, zs0, zs1, zs2]))
            refine wpS_done (by kernel_rfl) ?_ _
            obtain ⟨hC5, hK5, z5⟩ := hC3.push (t := (wo.heap.size, 52, l')) (O3.wide (by have := hC.lob; have := hC.blk.lt; show lo ≤ wo.heap.size; omega)) hl' (by have := hC.blk.lt; have := hC.lt1; have := hC.lt2; show wo.heap.size ∉ _; simp; omega) (by show Rw w4 1 g4 [bc, g2] A4 (nx + 1) c4 (Tx.map ckV ++ [ckV (wo.heap.size, 52, l')]); unfold ckV; rw [hl']; exact R4) K4 G4 L4 hw5
            have hK3 : Kp w9 [bc, g1] w3 := (hKr.drew.below b2 (Nat.le_trans hKr.size (Nat.le_refl _))).below b3 (Nat.le_trans hKr.size (Nat.le_of_lt s2))
            have hK5' : Kp w9 [bc, g1] w5 := kp_trans2 hK3 hK5 (fun q hq => by
              rcases mem2 hq with e | e
              · exact .inr (by rw [e]; simp)
              · rcases hgx with e2 | e2
                · exact .inr (by rw [e, e2]; simp)
                · exact .inl (by rw [e]; exact e2))
            have hg5 : g4 = g1 ∨ w9.heap.size ≤ g4 := by
              have := hK3.size
              rcases G4 with e | e
              · rcases hgx with e2 | e2
                · exact .inl (e.trans e2)
                · exact .inr (by rw [e]; exact e2)
              · exact .inr (by omega)
            have hTn5 : Hid (∀ t ∈ Tx ++ [(wo.heap.size, 52, l')], t ∈ T ∨ w.heap.size ≤ t.1) := fun t ht => by
              rw [List.mem_append] at ht
              rcases ht with ht | ht
              · exact hTn.out t ht
              · rw [List.mem_singleton.1 ht]; exact .inr (by show w.heap.size ≤ wo.heap.size; omega)
            have HN5 : Hid ((Tx ++ [(wo.heap.size, 52, l')]).map (fun t : CkT => t.2.2) = ckN (T.map fun t : CkT => t.2.2) ((frs L).take (j' + 1))) := by show _ = _; rw [List.map_append]; exact HNw.out
            clear hC hC2 hC3 hK5 hK3 O3 O2 b2 b3 J4 K4 R4 N3 hBk hBd hHeld hHeld4 hKr hcl HNw hw3 hw5 hgx
            go_wp2_with fail
            exact ⟨⟨j' + 1, by omega, by go_num, g4, _, A4, nx + 1, c4, hC5, HN5, hK5', hg5, hTn5⟩, by simp [intOf]; omega⟩
          · as_aux_lemma =>
            have d8 : decide ((nx : Int) < 8) = false := decide_eq_false (by omega)
            have hnw := Lib.hid (ckN_ge hTx.out (by rw [List.length_map]; omega) (show j' < (frs L).length by omega))
            clear h8 hTx
            go_wp2_with (first | (refine wpl_loadf (by rfl) 51 _ (by rfl) bc 4 (by rfl) _ _ hBw _ rfl _ Tryd.underlying51 rfl ?_))
            exact ⟨⟨j' + 1, by omega, by go_num, g1x, Tx, Ax, nx, cx, hC, hnw, hKr, hgx, hTn⟩, by simp [intOf]; omega⟩
        · as_aux_lemma =>
          obtain rfl : j' = nF := by omega
          have hTz := hTx.out
          rw [List.take_of_length_le (by omega)] at hTz
          have HTz := Lib.hid hTz
          have J10 := hKr.blk J9 (hm1 _ (Nat.le_refl _))
          have T10 := hKr.blk T9 (hm1 _ (by omega))
          have X10 := X9.keep fun q h1 h2 => hKr.block q h2 (hm1 q (by omega))
          have hp13 : wo.cell? ⟨pb, 13, none⟩ = some (.slice P1 j q1) := T10.cell rfl
          have K10 : Kp w [bc, g1, g2] wo := kp_trans2 K9 hKr (fun q hq => .inr (by rcases mem2 hq with e | e <;> (rw [e]; simp)))
          have zor := hKr.size
          clear hTx hTz hF9 R9 X9 J9 T9 K9 hKr
          go_wp2_with fail
          refine wp_region_heldL (fun y => Blk y pb 75 (ptL l v m st po pr rd rp id ref org rec xmt P1 j q1 P2 16 q2 A (n - 12) c P4 12 q4) ∧ y.cell? ⟨pb, 13, none⟩ = some (.slice P1 j q1)) 7 (by kernel_rfl) rfl ⟨T10.drew, hp13⟩ fun hHeld => ?_
          simp only [List.replicate]
          (refine wpH_t 0 _ (by exact gE rfl) (by kernel_rfl) (by intro _ _ _ h; exact h) (Or.inl ⟨by rfl, (by intro _ h; (try dsimp only at h); go_simp; first | done | with_reducible rfl)⟩) (by assumption) ?_; (try simp only [Act.put, zs0, zs1, zs2]))
          refine wpH_take (i := 1) (v := .agg ([.int .i64 l, .int .i64 v, .int .i64 m, .int .i64 st, .int .i64 po, .int .i64 pr, .int .u32 rd, .int .u32 rp, .int .u32 id, .int .u64 ref, .int .u64 org, .int .u64 rec, .int .u64 xmt]).toArray) (by exact gE rfl) (by kernel_rfl) (by kernel_rfl) (by kernel_rfl) (by intro _ _ _ h; exact h) (yieldsIf_load_mid (by rfl) 27 _ (by rfl) pb 0 (by rfl) [.int .i64 l, .int .i64 v, .int .i64 m, .int .i64 st, .int .i64 po, .int .i64 pr, .int .u32 rd, .int .u32 rp, .int .u32 id, .int .u64 ref, .int .u64 org, .int .u64 rec, .int .u64 xmt] _ (fun w' h => Blk.mid h.1 0 [.int .i64 l, .int .i64 v, .int .i64 m, .int .i64 st, .int .i64 po, .int .i64 pr, .int .u32 rd, .int .u32 rp, .int .u32 id, .int .u64 ref, .int .u64 org, .int .u64 rec, .int .u64 xmt] rfl) Tryd.underlying27 rfl sizeNtp) (by assumption) ?_
          (try simp only [Act.put, zs0, zs1, zs2])
          (refine wpH_t 2 _ (by exact gE rfl) (by kernel_rfl) (by intro _ _ _ h; exact h) (Or.inl ⟨by rfl, (by intro _ h; (try dsimp only at h); go_simp; first | done | with_reducible rfl)⟩) (by assumption) ?_; (try simp only [Act.put, zs0, zs1, zs2]))
          (refine wpH_t 3 _ (by exact gE rfl) (by kernel_rfl) (by intro _ _ _ h; exact h) (Or.inl ⟨by rfl, (by intro _ h; (try dsimp only at h); go_simp; first | done | with_reducible rfl)⟩) (by assumption) ?_; (try simp only [Act.put, zs0, zs1, zs2]))
          have hnpb : pb ≠ w.heap.size := by omega
          (refine wpH_one (i := 4) (by exact gE rfl) (by kernel_rfl) (by rfl) ?_; (refine wp_store1 27 (.tmp 4) (.tmp 105) (by rfl) w.heap.size (by rfl) _ (by rfl) [.int .i64 l, .int .i64 v, .int .i64 m, .int .i64 st, .int .i64 po, .int .i64 pr, .int .u32 rd, .int .u32 rp, .int .u32 id, .int .u64 ref, .int .u64 org, .int .u64 rec, .int .u64 xmt] rfl 27 _ J10.drew (by rfl) 13 sizeNtp (by rfl) (by simp [Value.oneCell']) ?_; intro wz Jz sz gz; refine ⟨⟨T10.drew.but gz hnpb, (T10.drew.but gz hnpb).cell rfl⟩, ?_⟩); (try simp only [Act.put, zs0, zs1, zs2]))
          have hHz : Blk wz pb 75 (ptL l v m st po pr rd rp id ref org rec xmt P1 j q1 P2 16 q2 A (n - 12) c P4 12 q4) ∧ wz.cell? ⟨pb, 13, none⟩ = some (.slice P1 j q1) := ⟨T10.drew.but gz hnpb, (T10.drew.but gz hnpb).cell rfl⟩
          (refine wpH_t 5 _ (by exact gE rfl) (by kernel_rfl) (by intro _ _ _ h; exact h) (Or.inl ⟨by rfl, (by intro _ h; (try dsimp only at h); go_simp; first | done | with_reducible rfl)⟩) (by assumption) ?_; (try simp only [Act.put, zs0, zs1, zs2]))
          (refine wpH_t 6 _ (by exact gE rfl) (by kernel_rfl) (by intro _ _ _ h; exact h) (Or.inl ⟨by rfl, (by intro _ h; (try dsimp only at h); go_simp; first | done | with_reducible rfl)⟩) (by assumption) ?_; (try simp only [Act.put, zs0, zs1, zs2]))
          refine wpH_done (by kernel_rfl) ?_ _
          go_wp2_with fail
          refine bodyPost_ret (res_cxy Tryd.results24 (by rfl) Jz Tryd.underlying27 rfl sizeNtp (by rfl) (by rfl) (by rfl)) rfl ?_
          have Xz := (X10.drew.but gz hl12).wide zw1
          have Kz : Kp wo [w.heap.size] wz := (Kp.refl wo _).drew.but gz (.inr (by simp))
          have hCz := hC.kp Kz (by simp; omega) (by
            rcases hgx with e | e
            · simp; omega
            · simp; omega) (by simp; omega) (fun t ht => by
            have h1 := (hC.ck t ht).1.1
            have h2 := (hC.ck t ht).2
            have h3 := h1.cell (k := 0) (by omega)
            have h4 := J10.cell (i := 0) rfl
            have : t.1 ≠ w.heap.size := fun e => by
              rw [e] at h3
              rw [h3] at h4
              cases h4
            simpa using this)
          have K11 : Kp w [bc, g1, g2] wz := kp_trans2 K10 Kz (fun q hq => .inl (Nat.le_of_eq (by simpa using Eq.symm (List.mem_singleton.1 hq))))
          refine .inr ⟨hFB.out, g1x, Tx, Ax, nx, cx, c2c, P1, j, q1, rfl, hL1, Xz, hCz, HTz.out, K11, ?_, hTn.out⟩
          rcases hgx with e | e
          · exact .inl e
          · exact .inr (by omega)
theorem acc_some (w : World) {lo bc g1 g2 : Nat} {k0 k1 k2 k3 N : Int} {T : List CkT} {I : List (List Int)} {Ac A2c : Option Addr} {nc cc n2c c2c : Nat} (hC : ClX w lo bc g1 g2 k0 k1 k2 k3 T N I Ac nc cc A2c n2c c2c) (hk2 : U64 k2) (hk3 : U64 k3) (hR : Rnd w) (hn8 : nc ≤ 8) (hn28 : n2c ≤ 8)
    (A : Option Addr) (n c : Nat) (b : List Int) (hn : b.length = n) (h : Bs w 0 w.heap.size A b) (hnc : n ≤ c) (hc : c ≤ 9223372036854775807) (hm : n ≤ 1000000) (hE : spE b = 0) (l v m st po pr rd rp id ref org rec xmt : Int) (hV : dcV b = ntp l v m st po pr rd rp id ref org rec xmt) (hT : prvB k2 k3 (spB b) (spA b) = true) (k : Nat) (hk : k < n2c) (hF : fiI I (spI b) = k) :
    Calls Tryd.prog 24 #[.pointer (some ⟨bc, 0, none⟩), .slice A n c] w fun e w' => (frB (spL b) = false ∧ e = .returned (.tuple #[ntp0, .slice none 0 0, .int .i64 7]) ∧ Below w.heap.size w w') ∨
          (frB (spL b) = true ∧ ∃ g1' T' Ac' nc' cc' c2c' P1 p1 q1, e = .returned (.tuple #[ntp l v m st po pr rd rp id ref org rec xmt, .slice P1 p1 q1, .int .i64 0]) ∧ (spL b).length = p1 ∧ XO w' w.heap.size P1 q1 (spL b) ∧ ClX w' lo bc g1' g2 k0 k1 k2 k3 T' N (I.take k ++ I.drop (k + 1)) Ac' nc' cc' A2c (n2c - 1) c2c' ∧
            T'.map (fun t : CkT => t.2.2) = ckN (T.map fun t : CkT => t.2.2) (frs (spL b)) ∧ Kp w [bc, g1, g2] w' ∧ (g1' = g1 ∨ w.heap.size ≤ g1')) :=
  (acc_some2 w hC hk2 hk3 hR hn8 hn28 A n c b hn h hnc hc hm hE l v m st po pr rd rp id ref org rec xmt hV hT k hk hF).mono fun e w' hh => by
    rcases hh with hh | ⟨h1, g1', T', Ac', nc', cc', c2c', P1, p1, q1, z1, z2, z3, z4, z5, z6, z7, _⟩
    · exact .inl hh
    · exact .inr ⟨h1, g1', T', Ac', nc', cc', c2c', P1, p1, q1, z1, z2, z3, z4, z5, z6, z7⟩
end Go.Proofs.YtachhbbofemfdaaDoor
