/- A list of sealed cookies under way; GuardTrips: the way to its rounds. Replies with two fresh cookies more (GuardWaits): Reply, Accept; a list of replies under way. GuardWaits: which identifiers wait and how many cookies are left, in plain numbers. No function of the program occurs here. -/
import Derived.Test.YtachhbbofemfdaaDoorGWz1
namespace Go.Proofs.YtachhbbofemfdaaDoor
open Go.RowKit
set_option linter.unusedSimpArgs false
set_option linter.unusedVariables false
set_option maxRecDepth 100000
/-- cookies T in row g; blocks up to d are none of theirs -/
structure CkLs (w : World) (d g : Nat) (T : List CkT) (A : Option Addr) (n c : Nat) : Prop where
  tn : T.length = n
  row : Rw w 1 g [d] A n c (T.map ckV)
  ck : ∀ t ∈ T, Ck w (d + 1) [g] t ∧ t.2.2.length = 52
  lo1 : d ≤ g
  lt : g < w.heap.size
section
variable {w w' : World} {d g : Nat} {T : List CkT} {A : Option Addr} {n c : Nat}
theorem CkLs.nil (h : d < w.heap.size) : CkLs w d d [] none 0 0 := ⟨rfl, Rw.nil _ _ _ _, fun t ht => by (cases ht), Nat.le_refl _, h⟩
theorem CkLs.below {B : Nat} (h : CkLs w d g T A n c) (hb : Below B w w') (hB : w.heap.size ≤ B) : CkLs w' d g T A n c :=
  have hk : Kp w [] w' := (Kp.refl w []).below hb hB
  ⟨h.tn, h.row.below (by omega) hb hB, fun t ht => ⟨(h.ck t ht).1.kp hk (by simp) (h.ck t ht).1.2, (h.ck t ht).2⟩, h.lo1, Nat.lt_of_lt_of_le h.lt hk.size⟩
theorem CkLs.push {t : CkT} {g' c' : Nat} {A' : Option Addr} (h : CkLs w d g T A n c) (ht : Ow w (d + 1) (some ⟨t.1, 0, none⟩) t.2.1 t.2.2) (ht2 : t.2.2.length = 52) (hn : t.1 ≠ g)
    (hr : Rw w' 1 g' [d] A' (n + 1) c' (T.map ckV ++ [ckV t])) (hk : Kp w (fp c g) w') (hg : g' = g ∨ w.heap.size ≤ g') (hl : g' < w'.heap.size) : CkLs w' d g' (T ++ [t]) A' (n + 1) c' := by
  refine ⟨by rw [List.length_append, h.tn]; rfl, by rw [List.map_append]; exact hr, fun u hu => ?_, (by have := h.lt; have := h.lo1; omega), hl⟩
  rw [List.mem_append] at hu
  have key : Ck w (d + 1) [g] u ∧ u.2.2.length = 52 := by
    rcases hu with hu | hu
    · exact h.ck u hu
    · obtain rfl : u = t := by simpa using hu
      exact ⟨⟨ht, by simpa using hn⟩, ht2⟩
  have hu3 : u.1 ≠ g := by simpa using key.1.2
  have hul := key.1.lt
  refine ⟨key.1.kp hk (fun hm => hu3 (fp_mem hm).2) ?_, key.2⟩
  simp
  intro e
  rcases hg with hg | hg
  · exact hu3 (e.trans hg)
  · omega
/-- none of the blocks up to d is written by its append -/
theorem CkLs.fp (h : CkLs w d g T A n c) {k : Nat} (hk : k ≤ d) : k ∉ fp c g := fun hm => by
  obtain ⟨hc, rfl⟩ := fp_mem hm
  have h1 := (h.row.lt hc (by omega)).2
  have h2 := h.lo1
  have h3 : k ≠ d := by simpa using h1
  omega
theorem CkLs.ls (h : CkLs w d g T A n c) : Ls w w.heap.size A (T.map (·.2.2)) := fun hp => by
  have hn : 0 < n := by rw [← h.tn]; simpa using hp
  obtain ⟨o, e, _⟩ := h.row.at hn (by omega)
  refine ⟨g, o, e, h.lt, fun k hk => ?_⟩
  have hk' : k < T.length := by simpa using hk
  obtain ⟨o', e', hc⟩ := h.row.at (k := k) (by rw [← h.tn]; exact hk') (by omega)
  rw [e] at e'
  injection e' with e'
  injection e' with _ e' _
  subst e'
  have hc0 := hc 0 (by omega)
  have hm := (h.ck T[k] (List.getElem_mem hk')).1
  refine ⟨some ⟨T[k].1, 0, none⟩, T[k].2.1, ?_, ?_⟩
  · simp only [Nat.mul_one, Nat.add_zero] at hc0
    rw [hc0, List.getElem?_map, List.getElem?_eq_getElem hk']
    simp [ckV]
  · rw [List.getElem_map]
    exact hm.1.bs.wide (Nat.zero_le _) (Nat.le_refl _)
end
/-- what the expressions of a round read -/
def TrS (w0 : World) (ka kb bp bt bc lo rt ct : Nat) (k0 k1 k2 k3 : Int) (G : List Nat) (CK : List (List Int)) (N : Int) (I : List (List Int)) (v7 : Int) (y : World) : Prop :=
  Blk y bp 27 [.int .i64 0, .int .i64 4, .int .i64 3, .int .i64 0, .int .i64 0, .int .i64 0, .int .u32 0, .int .u32 0, .int .u32 0, .int .u64 0, .int .u64 0, .int .u64 0, .int .u64 9] ∧ Blk y bt 31 (tktL (some ⟨rt, 0, none⟩) 16 ct k0 k1 k2 k3) ∧ Blk y ka 29 (keyL k0 k1) ∧ Blk y kb 29 (keyL k2 k3) ∧
    y.cell? ⟨rt, 7, none⟩ = some (.int .u8 v7) ∧ Cli y lo bc G k0 k1 k2 k3 CK N I ∧ Below w0.heap.size w0 y
theorem TrS.below {w0 y z : World} {ka kb bp bt bc lo rt ct : Nat} {k0 k1 k2 k3 N v7 : Int} {G : List Nat} {CK I : List (List Int)} (h : TrS w0 ka kb bp bt bc lo rt ct k0 k1 k2 k3 G CK N I v7 y) (hb : Below y.heap.size y z) : TrS w0 ka kb bp bt bc lo rt ct k0 k1 k2 k3 G CK N I v7 z := by
  obtain ⟨h1, h2, h3, h4, h5, h6, h7⟩ := h
  exact ⟨h1.below hb h1.lt, h2.below hb h2.lt, h3.below hb h3.lt, h4.below hb h4.lt, kept_cell hb h5 (World.block_lt_of_cell? y _ h5), h6.below hb, h7.trans (hb.mono h7.size)⟩
def TrU (w0 : World) (bq bc lo : Nat) (k0 k1 k2 k3 : Int) (G : List Nat) (CK : List (List Int)) (N : Int) (I : List (List Int)) (y : World) : Prop :=
  Blk y bq 27 [.int .i64 0, .int .i64 4, .int .i64 3, .int .i64 0, .int .i64 0, .int .i64 0, .int .u32 0, .int .u32 0, .int .u32 0, .int .u64 0, .int .u64 0, .int .u64 0, .int .u64 9] ∧ Cli y lo bc G k0 k1 k2 k3 CK N I ∧ Below w0.heap.size w0 y
theorem TrU.below {w0 y z : World} {bq bc lo : Nat} {k0 k1 k2 k3 N : Int} {G : List Nat} {CK I : List (List Int)} (h : TrU w0 bq bc lo k0 k1 k2 k3 G CK N I y) (hb : Below y.heap.size y z) : TrU w0 bq bc lo k0 k1 k2 k3 G CK N I z := by
  obtain ⟨h1, h6, h7⟩ := h
  exact ⟨h1.below hb h1.lt, h6.below hb, h7.trans (hb.mono h7.size)⟩
set_option maxRecDepth 100000 in
set_option maxHeartbeats 16000000 in
theorem trips_z1 (k0 k1 k2 k3 s m rq no : Int) (w : World) (d1 : decide (m < 1) = true) (hR : Rnd w) :
    Calls Tryd.prog 5 #[keyV k0 k1, keyV k2 k3, .int .u64 s, .int .u8 m, .int .u8 rq, .int .u64 no] w fun e w' => e = .returned (.bool true) ∧ Below w.heap.size w w' := by
  go_enter Tryd.func5, Tryd.ntmps5
  go_wp2_with (first
    | (refine wpl_box (by rfl) 29 _ (by rfl) _ (keyL k0 k1) (by rfl) rfl ?_; intro w1 P1 s1 b1)
    | (refine wpl_box (by rfl) 29 _ (by rfl) _ (keyL k2 k3) (by rfl) rfl ?_; intro w2 Q2 s2 b2))
  have B2 := b1.trans (b2.mono (by omega))
  have R2 := hR.below B2 hR.lt
  with_reducible refine (awake_any _ R2).mono ?_
  rintro e wa ⟨rfl, ba⟩
  have Ba := B2.trans (ba.mono B2.size)
  go_wp2
  go_ret
  exact ⟨rfl, Ba⟩
set_option maxRecDepth 100000 in
set_option maxHeartbeats 16000000 in
theorem trips_z2 (k0 k1 k2 k3 s m rq no : Int) (w : World) (d1 : decide (m < 1) = false) (d2 : decide (8 < m) = true) (hR : Rnd w) :
    Calls Tryd.prog 5 #[keyV k0 k1, keyV k2 k3, .int .u64 s, .int .u8 m, .int .u8 rq, .int .u64 no] w fun e w' => e = .returned (.bool true) ∧ Below w.heap.size w w' := by
  go_enter Tryd.func5, Tryd.ntmps5
  go_wp2_with (first
    | (refine wpl_box (by rfl) 29 _ (by rfl) _ (keyL k0 k1) (by rfl) rfl ?_; intro w1 P1 s1 b1)
    | (refine wpl_box (by rfl) 29 _ (by rfl) _ (keyL k2 k3) (by rfl) rfl ?_; intro w2 Q2 s2 b2))
  have B2 := b1.trans (b2.mono (by omega))
  have R2 := hR.below B2 hR.lt
  with_reducible refine (awake_any _ R2).mono ?_
  rintro e wa ⟨rfl, ba⟩
  have Ba := B2.trans (ba.mono B2.size)
  go_wp2
  go_ret
  exact ⟨rfl, Ba⟩
set_option maxRecDepth 100000 in
set_option maxHeartbeats 16000000 in
theorem trips_z3 (k0 k1 k2 k3 s m rq no : Int) (w : World) (d1 : decide (m < 1) = false) (d2 : decide (8 < m) = false) (d3 : decide (30 < rq) = true) (hR : Rnd w) :
    Calls Tryd.prog 5 #[keyV k0 k1, keyV k2 k3, .int .u64 s, .int .u8 m, .int .u8 rq, .int .u64 no] w fun e w' => e = .returned (.bool true) ∧ Below w.heap.size w w' := by
  go_enter Tryd.func5, Tryd.ntmps5
  go_wp2_with (first
    | (refine wpl_box (by rfl) 29 _ (by rfl) _ (keyL k0 k1) (by rfl) rfl ?_; intro w1 P1 s1 b1)
    | (refine wpl_box (by rfl) 29 _ (by rfl) _ (keyL k2 k3) (by rfl) rfl ?_; intro w2 Q2 s2 b2))
  have B2 := b1.trans (b2.mono (by omega))
  have R2 := hR.below B2 hR.lt
  with_reducible refine (awake_any _ R2).mono ?_
  rintro e wa ⟨rfl, ba⟩
  have Ba := B2.trans (ba.mono B2.size)
  go_wp2
  go_ret
  exact ⟨rfl, Ba⟩
set_option maxRecDepth 100000 in
set_option maxHeartbeats 16000000 in
theorem trips_main (k0 k1 k2 k3 s no : Int) (m rq : Nat) (w : World) (hk0 : U64 k0) (hk1 : U64 k1) (hk2 : U64 k2) (hk3 : U64 k3) (hs : U64 s) (hno : U64 no) (hm1 : 1 ≤ m) (hm2 : m ≤ 8) (hrq : rq ≤ 30) (hR : Rnd w) :
    Calls Tryd.prog 5 #[keyV k0 k1, keyV k2 k3, .int .u64 s, .int .u8 m, .int .u8 rq, .int .u64 no] w fun e w' => e = .returned (.bool true) ∧ Below w.heap.size w w' := by
  have hw0 := hR.lt
  have d1 : decide ((m : Int) < 1) = false := decide_eq_false (by omega)
  have d2 : decide ((8 : Int) < m) = false := decide_eq_false (by omega)
  have d3 : decide ((30 : Int) < rq) = false := decide_eq_false (by omega)
  have hg : Gn 1 := ⟨by omega, by omega⟩
  have hst : staleB 1 1 1 = false := by unfold staleB; rw [decide_eq_false (by omega : ¬ (1 : Int) ≤ 1 - 1)]; decide
  have hop : ∀ x, U64 x → Hid (opV s 1 1 (ckB s 1 x k0 k1 k2 k3) = .tuple #[keyV k0 k1, keyV k2 k3, .int .i64 0]) := fun x hx => by
    show _ = _
    rw [ck_open hg hx hk0 hk1 hk2 hk3, hst]; rfl
  have hSe := fun bj x W (hx : U64 x) hJ hR => seal_any bj s 1 1 k0 k1 k2 k3 x W hs hg hx hk0 hk1 hk2 hk3 hJ hR
  go_enter Tryd.func5, Tryd.ntmps5
  go_wp2_with (first
    | (refine wpl_box (by rfl) 29 _ (by rfl) _ (keyL k0 k1) (by rfl) rfl ?_; intro w1 U1 s1 b1)
    | ((refine wpl_box (by rfl) 29 _ (by rfl) _ (keyL k2 k3) (by rfl) rfl ?_; intro w2 V2 s2 b2); (have U2 := U1.below b2 (by omega)); (have B2 := b1.trans (b2.mono (by omega))))
    | (go_at_call 12; ((with_reducible refine (new_some s 1 _ (by omega) (by omega)).mono ?_); rintro e w5 ⟨rfl, J5, b5⟩; (have U5 := U2.below b5 U2.lt); (have V5 := V2.below b5 V2.lt); (have B5 := B2.trans (b5.mono B2.size)))))
  have R5 := hR.below B5 hw0
  have z14 : w1.heap.size < w2.heap.size := by omega
  have z01 : w.heap.size < w1.heap.size := s1
  clear U1 U2 V2 b1 b2 b5 B2 s1 s2 d1 d2 d3
  generalize hq1 : w1.heap.size = n1 at *
  generalize hq4 : w2.heap.size = bj at *
  clear hq1 hq4
  go_loopw [14, 45] (fun l i wr => ∃ k : Nat, k ≤ m ∧ i = .int .u8 k ∧ ∃ g T A n c, l = .slice A n c ∧ CkLs wr bj g T A n c ∧ Hid (n = k) ∧ Hid (∀ t ∈ T, ∃ x, U64 x ∧ t.2.2 = ckB s 1 x k0 k1 k2 k3) ∧ Blk wr w.heap.size 29 (keyL k0 k1) ∧ Blk wr n1 29 (keyL k2 k3) ∧ Blk wr bj 84 (jarL s 1 1) ∧ Rnd wr ∧ Below w.heap.size w wr) (fun _ i _ => m - (intOf i).toNat)
  case atStart => exact ⟨0, by omega, rfl, bj, [], none, 0, 0, rfl, CkLs.nil J5.lt, rfl, fun t ht => by (cases ht), U5, V5, J5, R5, B5⟩
  case round =>
    obtain ⟨k, hk, rfl, g, T, A, n, c, rfl, hC, hnk, hT, hU, hV, hJ, hRr, hB⟩ := hrel
    obtain ⟨wo, rfl⟩ : ∃ wo : World, wo = wr := ⟨wr, rfl⟩
    clear U5 V5 J5 R5 B5
    by_cases hlt : k < m
    · have i0 : (0 : Int) ≤ k := by omega
      have i1 : (k : Int) < m := by omega
      have hx : U64 (k : Int) := by unfold U64; omega
      have hSE := fun W hJ hR => hSe bj k W hx hJ hR
      go_wp2_with (first
        | (refine wpl_load (by rfl) 29 _ (by rfl) w.heap.size (by rfl) 29 _ hU _ Tryd.underlying29 rfl _ sizeKey (by rfl) ?_)
        | (refine wpl_load (by rfl) 29 _ (by rfl) n1 (by rfl) 29 _ hV _ Tryd.underlying29 rfl _ sizeKey (by rfl) ?_))
      have h52 : (ckB s 1 k k0 k1 k2 k3).length = 52 := ckB_len _ _ _ _ _ _ _
      have hSE' := hSE wo hJ hRr
      have hCKe : Hid (∃ x, U64 x ∧ ckB s 1 k k0 k1 k2 k3 = ckB s 1 x k0 k1 k2 k3) := ⟨k, hx, rfl⟩
      have i2 : IntKind.u8.wrap ((k : Int) + 1) = ((k + 1 : Nat) : Int) := by rw [IntKind.wrap_u8]; omega
      generalize ckB s 1 k k0 k1 k2 k3 = CK at hSE' hCKe h52
      with_reducible refine hSE'.mono ?_
      rintro e w6 ⟨A6, c6, rfl, O6, b6⟩
      obtain ⟨g6, rfl, hg6a, hg6b⟩ : ∃ g6, A6 = some ⟨g6, 0, none⟩ ∧ wo.heap.size ≤ g6 ∧ g6 < w6.heap.size := by
        rcases O6.form with ⟨_, e, _⟩ | ⟨g, e1, e2, e3⟩
        · rw [e] at h52; cases h52
        · exact ⟨g, e1, e2, e3⟩
      have hn8 : n ≤ 8 := by have := hnk.out; omega
      have hgl := hC.lt
      have hbl := hJ.lt
      have C6 := hC.below b6 (Nat.le_refl _)
      have U6 := hU.below b6 hU.lt
      have V6 := hV.below b6 hV.lt
      have J6 := hJ.below b6 hJ.lt
      have R6 := hRr.below b6 hRr.lt
      have B6 := hB.trans (b6.mono hB.size)
      clear hSE' hSE hC hU hV hJ hRr hB b6
      have zU := U6.lt
      have zV := V6.lt
      have zJ := J6.lt
      have bA : Below w6.heap.size w6 (w6.alloc (.cells #[.slice (some ⟨g6, 0, none⟩) 52 c6] 23)) := (Below.refl _ w6).alloc (Nat.le_refl _) _
      have CA := C6.below bA (Nat.le_refl _)
      have OA := O6.below bA (Nat.le_refl _)
      have UA := U6.below bA U6.lt
      have VA := V6.below bA V6.lt
      have JA := J6.below bA J6.lt
      have RA := R6.below bA R6.lt
      have BA := B6.trans (bA.mono B6.size)
      have NA := Blk.new w6 23 #[.slice (some ⟨g6, 0, none⟩) 52 c6] [.slice (some ⟨g6, 0, none⟩) 52 c6] rfl
      clear C6 O6 U6 V6 J6 R6 B6 bA
      go_wp2_with (first
        | (refine wpl_append_rw (by rfl) 51 23 (.slice none 0 0) 24 (.tmp 48) (.tmp 55) (by rfl) Tryd.underlying51 infoSl (by rfl) (by omega) (by rfl) CA.row ⟨w6.heap.size, 0, none⟩ 1 1 [.slice (some ⟨g6, 0, none⟩) 52 c6] (by rfl) rfl (by omega) (cells2_of NA) (by simp [Value.oneCell']) (by omega) (by omega) (by have := JA.lt; intro k hk; rw [List.mem_singleton.1 hk]; exact this) ?_; intro g9 A9 c9 w9 R9 K9 G9 L9))
      have hdu := fun {q : Nat} (hq : q ≤ bj) => CA.fp hq
      have C9 : CkLs w9 bj g9 (T ++ [(g6, c6, CK)]) A9 (n + 1) c9 := CkLs.push (t := (g6, c6, CK)) CA (OA.wide (by omega)) h52 (by show g6 ≠ g; omega) (by
          rw [show ckV (g6, c6, CK) = .slice (some ⟨g6, 0, none⟩) 52 c6 from by show Value.slice _ CK.length _ = _; rw [h52]]; exact R9) K9 G9 L9
      have hU9 := K9.blk UA (hdu (by omega))
      have hV9 := K9.blk VA (hdu (by omega))
      have hJ9 := K9.blk JA (hdu (Nat.le_refl _))
      have hR9 := K9.rnd RA (hdu (by omega))
      have hB9 : Below w.heap.size w w9 := K9.toBelow BA BA.size (fun q hq => by
        obtain ⟨hc, rfl⟩ := fp_mem hq
        have := CA.lo1
        omega)
      have hnk9 : Hid (n + 1 = k + 1) := by show _ = _; rw [hnk.out]
      have hT9 : Hid (∀ t ∈ T ++ [(g6, c6, CK)], ∃ x, U64 x ∧ t.2.2 = ckB s 1 x k0 k1 k2 k3) := fun t ht => by
        rw [List.mem_append] at ht
        rcases ht with ht | ht
        · exact hT.out t ht
        · rw [List.mem_singleton.1 ht]; exact hCKe.out
      exact ⟨⟨k + 1, by omega, by go_num, g9, _, A9, n + 1, c9, rfl, C9, hnk9, hT9, hU9, hV9, hJ9, hR9, hB9⟩, by simp [intOf]; omega⟩
    · obtain rfl : k = m := by omega
      go_wp2_with (first
        | (refine wpl_load (by rfl) 29 _ (by rfl) w.heap.size (by rfl) 29 _ hU _ Tryd.underlying29 rfl _ sizeKey (by rfl) ?_)
        | (refine wpl_load (by rfl) 29 _ (by rfl) n1 (by rfl) 29 _ hV _ Tryd.underlying29 rfl _ sizeKey (by rfl) ?_))
      have hnk' := hnk.out
      obtain ⟨M, hMe⟩ : ∃ M, T.map (fun t : CkT => t.2.2) = M := ⟨_, rfl⟩
      have hML : M.length = n := by rw [← hMe, List.length_map]; exact hC.tn
      have hMo : Hid (∀ d ∈ M, opV s 1 1 d = .tuple #[keyV k0 k1, keyV k2 k3, .int .i64 0]) := fun d hd => by
        rw [← hMe] at hd
        obtain ⟨t, ht, rfl⟩ := List.mem_map.1 hd
        obtain ⟨x, hx, e⟩ := hT.out t ht
        show opV s 1 1 t.2.2 = _
        rw [e]; exact (hop x hx).out
      have hM52 : ∀ d ∈ M, d.length = 52 := fun d hd => by
        rw [← hMe] at hd
        obtain ⟨t, ht, rfl⟩ := List.mem_map.1 hd
        exact (hC.ck t ht).2
      have hLs := hC.ls
      rw [hMe] at hLs
      have hNC := cnew k0 k1 k2 k3 A n c M wo (by omega) hML hLs hC.row.2.1 hM52
      with_reducible refine hNC.mono ?_
      rintro e w8 ⟨bc, G, rfl, C8, b8⟩
      have U8 : BlG w8 G w.heap.size 29 (keyL k0 k1) := ⟨hU.below b8 hU.lt, C8.low hU.lt⟩
      have V8 : BlG w8 G n1 29 (keyL k2 k3) := ⟨hV.below b8 hV.lt, C8.low hV.lt⟩
      have J8 : BlG w8 G bj 84 (jarL s 1 1) := ⟨hJ.below b8 hJ.lt, C8.low hJ.lt⟩
      have R8 := hRr.below b8 hRr.lt
      have B8 := hB.trans (b8.mono hB.size)
      have hlo : 0 < wo.heap.size := hRr.lt
      have hlow : w.heap.size ≤ wo.heap.size := hB.size
      rw [hnk'] at hML
      clear hNC hLs hMe hM52 hC hU hV hJ hRr hB b8 hT hnk hnk' hlt hk hSe
      generalize wo.heap.size = lo at *
      go_wp2_with fail
      go_loopw [63] (fun i wr => ∃ q : Nat, q ≤ rq ∧ i = .int .u8 q ∧ ∃ G CK, Cli wr lo bc G k0 k1 k2 k3 CK q [] ∧ Hid (CK.length = k) ∧ Hid (∀ d ∈ CK, opV s 1 1 d = .tuple #[keyV k0 k1, keyV k2 k3, .int .i64 0]) ∧ BlG wr G w.heap.size 29 (keyL k0 k1) ∧ BlG wr G n1 29 (keyL k2 k3) ∧ BlG wr G bj 84 (jarL s 1 1) ∧ Rnd wr ∧ Below w.heap.size w wr) (fun i _ => rq - (intOf i).toNat)
      case atStart => exact ⟨0, by omega, rfl, G, M, C8, hML, hMo, U8, V8, J8, R8, B8⟩
      case round =>
        obtain ⟨q, hq, rfl, G, CK, C0, hCL, hCo, U0, V0, J0, R0, B0⟩ := hrel
        clear C8 hML hMo U8 V8 J8 R8 B8
        by_cases hlt : q < rq
        · obtain ⟨c0, CK', rfl⟩ : ∃ c0 CK', CK = c0 :: CK' := by
            rcases CK with _ | ⟨c0, CK'⟩
            · have := hCL.out; simp at this; omega
            · exact ⟨c0, CK', rfl⟩
          have hCl : Hid (CK'.length + 1 = k) := by
            show _ = _
            simpa using hCL.out
          have hl8 : CK'.length + 1 ≤ 8 := by have := hCl.out; omega
          have hop0 := hCo.out c0 (by simp)
          have hCo' : Hid (∀ d ∈ CK', opV s 1 1 d = .tuple #[keyV k0 k1, keyV k2 k3, .int .i64 0]) := fun d hd => hCo.out d (by simp [hd])
          obtain ⟨h52, hcb⟩ := C0.lens.1 c0 (by simp)
          have j0 : (0 : Int) ≤ q := by omega
          have j1 : (q : Int) < rq := by omega
          clear hCL hCo
          go_wp2_with fail
          with_reducible refine (head_any _).mono ?_
          rintro e w9 ⟨rfl, b9⟩
          have U9 := U0.below b9
          have V9 := V0.below b9
          have J9 := J0.below b9
          have C9 := C0.below b9
          have R9 := R0.below b9 R0.lt
          have B9 := B0.trans (b9.mono B0.size)
          clear U0 V0 J0 C0 R0 B0 b9
          go_wp2_with fail
          have hxw : U64 (IntKind.u64.wrap (no + q)) := by unfold U64; rw [IntKind.wrap_u64]; omega
          generalize IntKind.u64.wrap (no + q) = x at hxw ⊢
          have hRQ := t_req x C9 hk0 hk1 (by omega) hxw R9 hlo hl8 (by simp)
          with_reducible refine hRQ.mono ?_
          rintro e w10 ⟨r, cr, G', rfl, M10, C10, K10, n10⟩
          have z0 : 0 ∉ G := C9.low hlo
          have U10 := U9.go K10 n10
          have V10 := V9.go K10 n10
          have J10 := J9.go K10 n10
          have R10 := R9.go K10 z0
          have B10 : Below w.heap.size w w10 := K10.toBelow B9 B9.size (fun g hg => by have := (C9.rng g hg).1; omega)
          have hcr := M10.1.cap_le
          have hcrm := M10.1.cap_max
          have hml := rqM_len ((q : Int) + 1) x k0 k1 h52
          rw [show ((r, cr, rqM ((q : Int) + 1) x c0 k0 k1) : CkT).2.2 = rqM ((q : Int) + 1) x c0 k0 k1 from rfl, hml] at hcr
          have hwt : wtN [] (idB ((q : Int) + 1) x) = [idB ((q : Int) + 1) x] := rfl
          rw [hwt] at C10
          have hi1 := idB_len ((q : Int) + 1) x
          have hi2 := idB_byt ((q : Int) + 1) x
          have hi7 : atB (idB ((q : Int) + 1) x) 7 = (q : Int) + 1 := by
            show (bytesB 8 ((q : Int) + 1) ++ bytesB 8 x).getD 7 0 = _
            rw [List.getD_eq_getElem?_getD, List.getElem?_append_left (by rw [bytesB_length]; omega)]
            show ((bytesB 7 (((q : Int) + 1) / 256) ++ [((q : Int) + 1) % 256])[7]?).getD 0 = _
            rw [List.getElem?_append_right (by rw [bytesB_length]; omega), bytesB_length]
            show ((q : Int) + 1) % 256 = _
            omega
          have hfi : fiI [idB ((q : Int) + 1) x] (idB ((q : Int) + 1) x) = (0 : Nat) := fiI_some (k := 0) (by simp) rfl (fun j hj => by omega)
          clear U9 V9 J9 C9 R9 B9 K10 n10 z0 hRQ hwt hml
          go_wp2_with fail
          have hOPN := t_open (c := cr) ((q : Int) + 1) x J10.1 hs hg ⟨by omega, by omega⟩ R10 h52 hcb hop0 (M10.1.bs.wide (Nat.zero_le _) (Nat.le_refl _)) hcr hcrm
          with_reducible refine hOPN.mono ?_
          generalize idB ((q : Int) + 1) x = ID at *
          rintro e w14 ⟨rt, ct, rfl, I14, b14⟩
          have U14 := U10.below b14
          have V14 := V10.below b14
          have J14 := J10.below b14
          have C14 := C10.below b14
          have R14 := R10.below b14 R10.lt
          have B14 := B10.trans (b14.mono B10.size)
          have hlt14 := I14.blt rt rfl
          have hti : rt ∉ G' := by
            intro hm
            have := (C10.rng rt hm).2
            omega
          have I14' : Ck w14 w10.heap.size G' (rt, ct, ID) := ⟨I14, hti⟩
          clear U10 V10 J10 C10 R10 B10 M10 b14 I14 hOPN
          go_wp2_with (first
            | ((refine wpl_alloc (by rfl) 27 (by rfl) (.agg (zN).toArray) (zN) zeroNtp rfl ?_; intro w15 P15 s15 b15); (have T15 := U14))
            | ((refine wpl_alloc (by rfl) 31 (by rfl) (.agg (tktL none 0 0 0 0 0 0).toArray) (tktL none 0 0 0 0 0 0) zeroTk rfl ?_; intro w16 T16 s16 b16); (have P16 := P15.below b16 (by omega)))
            | ((refine wpl_store (by rfl) 27 _ _ (by rfl) w14.heap.size (by rfl) _ (by rfl) _ rfl 27 _ P16 (by rfl) _ sizeNtp (by rfl) (by simp [Value.oneCell']) ?_; intro w17 P17 s17 g17); (have T17 := T16.but g17 (by omega)))
            | ((refine wpl_store (by rfl) 31 _ _ (by rfl) w15.heap.size (by rfl) _ (by rfl) _ rfl 31 _ T17 (by rfl) _ sizeTk (by rfl) (by simp [Value.oneCell']) ?_; intro w18 T18 s18 g18); (have P18 := P17.but g18 (by omega))))
          have g15 : Below w14.heap.size w14 w18 := ((b15.trans (b16.mono b15.size)).trans (But.below (g := w14.heap.size) g17 (by omega) (Nat.le_refl _))).trans (But.below (g := w15.heap.size) g18 (by omega) b15.size)
          have n14 : w14.heap.size ∉ G' := fun hm => by have := (C14.rng _ hm).2; omega
          have n15 : w15.heap.size ∉ G' := fun hm => by have := (C14.rng _ hm).2; omega
          have U18 := U14.below g15
          have V18 := V14.below g15
          have J18 := J14.below g15
          have C18 := C14.below g15
          have R18 := R14.below g15 R14.lt
          have B18 := B14.trans (g15.mono B14.size)
          have I18 := I14'.below g15
          have P18' : BlG w18 G' w14.heap.size 27 [.int .i64 0, .int .i64 4, .int .i64 3, .int .i64 0, .int .i64 0, .int .i64 0, .int .u32 0, .int .u32 0, .int .u32 0, .int .u64 0, .int .u64 0, .int .u64 0, .int .u64 9] := ⟨P18, n14⟩
          have T18' : BlG w18 G' w15.heap.size 31 (tktL (some ⟨rt, 0, none⟩) 16 ct k0 k1 k2 k3) := ⟨T18, n15⟩
          have hcap := I18.1.cap_le
          rw [show ((rt, ct, ID) : CkT).2.2 = ID from rfl, hi1] at hcap
          clear U14 V14 J14 C14 R14 B14 I14' b15 b16 g17 g18 g15 P15 P16 P17 P18 T15 T16 T17 T18 n14 n15 s15 s16 s17 s18
          generalize hx : w14.heap.size = bp at *
          generalize hy : w15.heap.size = bt at *
          clear hx hy
          have hT18 := T18'.1
          refine wp_region_heldL (fun y => Blk y bt 31 (tktL (some ⟨rt, 0, none⟩) 16 ct k0 k1 k2 k3)) 10 (by kernel_rfl) rfl hT18.drew fun hHeld => ?_
          simp only [List.replicate]
          (refine wpH_take (i := 0) (v := _) (by simp only [List.getElem?_toArray, List.getElem?_cons_succ, List.getElem?_cons_zero]; rfl) (by kernel_rfl) (by kernel_rfl) (by kernel_rfl) (by intro _ _ _ h; exact h) (Or.inl ⟨by rfl, (by intro w' hSw; (try dsimp only at hSw); go_simp; first | done | with_reducible rfl)⟩) (by assumption) ?_; (try simp only [Act.put, List.setIfInBounds_toArray, List.set_cons_zero, List.set_cons_succ]))
          refine wpH_take (i := 1) (v := .agg (tktL (some ⟨rt, 0, none⟩) 16 ct k0 k1 k2 k3).toArray) (by simp only [List.getElem?_toArray, List.getElem?_cons_succ, List.getElem?_cons_zero]; rfl) (by kernel_rfl) (by kernel_rfl) (by kernel_rfl) (by intro _ _ _ h; exact h) (yieldsIf_load_mid (by rfl) 31 _ (by rfl) bt 0 (by rfl) (tktL (some ⟨rt, 0, none⟩) 16 ct k0 k1 k2 k3) _ (fun w' h => h.range) Tryd.underlying31 rfl sizeTk) (by assumption) ?_
          (try simp only [Act.put, List.setIfInBounds_toArray, List.set_cons_zero, List.set_cons_succ])
          (refine wpH_take (i := 3) (v := _) (by simp only [List.getElem?_toArray, List.getElem?_cons_succ, List.getElem?_cons_zero]; rfl) (by kernel_rfl) (by kernel_rfl) (by kernel_rfl) (by intro _ _ _ h; exact h) (Or.inl ⟨by rfl, (by intro w' hSw; (try dsimp only at hSw); go_simp; first | done | with_reducible rfl)⟩) (by assumption) ?_; (try simp only [Act.put, List.setIfInBounds_toArray, List.set_cons_zero, List.set_cons_succ]))
          have hhd := head_any w18.drew
          (refine wpH_one (i := 2) (by simp only [List.getElem?_toArray, List.getElem?_cons_succ, List.getElem?_cons_zero]; rfl) (by kernel_rfl) (by rfl) ?_; (go_simp; (with_reducible refine hhd.mono ?_); rintro e w19 ⟨rfl, b19⟩; refine ⟨hT18.drew.below b19 hT18.lt, ?_⟩); (try simp only [Act.put, List.setIfInBounds_toArray, List.set_cons_zero, List.set_cons_succ]))
          have b19' : Below w18.heap.size w18 w19 := (Below.refl _ w18).drew.trans b19
          have U19 := U18.below b19'
          have V19 := V18.below b19'
          have J19 := J18.below b19'
          have C19 := C18.below b19'
          have R19 := R18.below b19' R18.lt
          have B19 := B18.trans (b19'.mono B18.size)
          have I19 := I18.below b19'
          have P19 := P18'.below b19'
          have T19 := T18'.below b19'
          have hT19 := T19.1
          have hREP := t_rep (ci := ct) no J19.1 hs hg R19 hno hk0 hk1 hk2 hk3 hi1 (I19.1.bs.wide (Nat.zero_le _) (Nat.le_refl _)) hcap I19.1.cap_max
          (refine wpH_one (i := 4) (by simp only [List.getElem?_toArray, List.getElem?_cons_succ, List.getElem?_cons_zero]; rfl) (by kernel_rfl) (by rfl) ?_; (go_simp; (with_reducible refine hREP.mono ?_); rintro e w20 ⟨Ar, car, rfl, O20, b20⟩; refine ⟨hT19.below b20 hT19.lt, ?_⟩); (try simp only [Act.put, List.setIfInBounds_toArray, List.set_cons_zero, List.set_cons_succ]))
          have U20 := U19.below b20
          have V20 := V19.below b20
          have J20 := J19.below b20
          have C20 := C19.below b20
          have R20 := R19.below b20 R19.lt
          have B20 := B19.trans (b20.mono B19.size)
          have I20 := I19.below b20
          have P20 := P19.below b20
          have T20 := T19.below b20
          have hT20 := T20.1
          (refine wpH_take (i := 5) (v := _) (by simp only [List.getElem?_toArray, List.getElem?_cons_succ, List.getElem?_cons_zero]; rfl) (by kernel_rfl) (by kernel_rfl) (by kernel_rfl) (by intro _ _ _ h; exact h) (Or.inl ⟨by rfl, (by intro w' hSw; (try dsimp only at hSw); go_simp; first | done | with_reducible rfl)⟩) (by assumption) ?_; (try simp only [Act.put, List.setIfInBounds_toArray, List.set_cons_zero, List.set_cons_succ]))
          (refine wpH_take (i := 6) (v := _) (by simp only [List.getElem?_toArray, List.getElem?_cons_succ, List.getElem?_cons_zero]; rfl) (by kernel_rfl) (by kernel_rfl) (by kernel_rfl) (by intro _ _ _ h; exact h) (Or.inl ⟨by rfl, (by intro w' hSw; (try dsimp only at hSw); go_simp; first | done | with_reducible rfl)⟩) (by assumption) ?_; (try simp only [Act.put, List.setIfInBounds_toArray, List.set_cons_zero, List.set_cons_succ]))
          (refine wpH_take (i := 7) (v := _) (by simp only [List.getElem?_toArray, List.getElem?_cons_succ, List.getElem?_cons_zero]; rfl) (by kernel_rfl) (by kernel_rfl) (by kernel_rfl) (by intro _ _ _ h; exact h) (Or.inl ⟨by rfl, (by intro w' hSw; (try dsimp only at hSw); go_simp; first | done | with_reducible rfl)⟩) (by assumption) ?_; (try simp only [Act.put, List.setIfInBounds_toArray, List.set_cons_zero, List.set_cons_succ]))
          (refine wpH_take (i := 8) (v := _) (by simp only [List.getElem?_toArray, List.getElem?_cons_succ, List.getElem?_cons_zero]; rfl) (by kernel_rfl) (by kernel_rfl) (by kernel_rfl) (by intro _ _ _ h; exact h) (Or.inl ⟨by rfl, (by intro w' hSw; (try dsimp only at hSw); go_simp; first | done | with_reducible rfl)⟩) (by assumption) ?_; (try simp only [Act.put, List.setIfInBounds_toArray, List.set_cons_zero, List.set_cons_succ]))
          (refine wpH_take (i := 9) (v := _) (by simp only [List.getElem?_toArray, List.getElem?_cons_succ, List.getElem?_cons_zero]; rfl) (by kernel_rfl) (by kernel_rfl) (by kernel_rfl) (by intro _ _ _ h; exact h) (Or.inl ⟨by rfl, (by intro w' hSw; (try dsimp only at hSw); go_simp; first | done | with_reducible rfl)⟩) (by assumption) ?_; (try simp only [Act.put, List.setIfInBounds_toArray, List.set_cons_zero, List.set_cons_succ]))
          refine wpH_done (by kernel_rfl) ?_ _
          have hRl := rpM_len (ck := ckB s 1 no k0 k1 k2 k3) k2 k3 hi1 (ckB_len _ _ _ _ _ _ _)
          have hcar := O20.cap_le
          rw [hRl] at hcar
          have hcarm := O20.cap_max
          obtain ⟨rr, rfl, hrr⟩ : ∃ rr, Ar = some ⟨rr, 0, none⟩ ∧ rr ∉ G' ∧ rr < w20.heap.size := by
            rcases O20.form with ⟨_, e, _⟩ | ⟨rr, e1, e2, e3⟩
            · rw [e] at hRl; cases hRl
            · exact ⟨rr, e1, fun hm => by have := (C19.rng _ hm).2; omega, e3⟩
          have M20 : Ck w20 w19.heap.size G' (rr, car, rpM ID (ckB s 1 no k0 k1 k2 k3) [] k2 k3) := ⟨O20, hrr.1⟩
          have hopN := hop no hno
          have hk52 : (ckB s 1 no k0 k1 k2 k3).length = 52 := ckB_len _ _ _ _ _ _ _
          have hkb : Byt (ckB s 1 no k0 k1 k2 k3) := ckB_byt _ _ _ _ _ _ _
          generalize ckB s 1 no k0 k1 k2 k3 = CKn at *
          clear hHeld hREP hhd hT18 hT19 hT20 U18 V18 J18 C18 R18 B18 I18 P18' T18' U19 V19 J19 C19 R19 B19 I19 P19 T19 b19 b19' b20 O20
          go_wp2_with fail
          have hc7 := I20.1.cell (k := 7) (by show 7 < ID.length; omega)
          rw [show atB ((rt, ct, ID) : CkT).2.2 7 = atB ID 7 from rfl, hi7] at hc7
          have hEx : TrS w20 w.heap.size n1 bp bt bc lo rt ct k0 k1 k2 k3 G' CK' ((q : Int) + 1) [ID] ((q : Int) + 1) w20.drew := ⟨P20.1.drew, T20.1.drew, U20.1.drew, V20.1.drew, hc7, C20.below ((Below.refl _ _).drew), (Below.refl _ w20).drew⟩
          have hke := key_eq
          have hkm : (k : Int) - 1 = (CK'.length : Int) := by have := hCl.out; omega
          have hw1 : IntKind.i64.wrap (k : Int) = k := IntWalk.i64_in _ (by omega)
          have hw3 : IntKind.i64.wrap (CK'.length : Int) = (CK'.length : Int) := IntWalk.i64_in _ (by omega)
          have i2 : IntKind.u8.wrap ((q : Int) + 1) = (q : Int) + 1 := by rw [IntKind.wrap_u8]; omega
          refine wp_region_det (fun y => TrS w20 w.heap.size n1 bp bt bc lo rt ct k0 k1 k2 k3 G' CK' ((q : Int) + 1) [ID] ((q : Int) + 1) y) 50 (by kernel_rfl) rfl (by exact hEx) ?_
          simp only [List.replicate]
          (refine wpD_take (i := 0) (v := _) (by simp only [List.getElem?_toArray, List.getElem?_cons_succ, List.getElem?_cons_zero]; rfl) (by kernel_rfl) (by kernel_rfl) (by kernel_rfl) (by rfl) (YS.of_value (by intro w' hSw; (try dsimp only at hSw); go_simp; first | done | with_reducible rfl)) ?_; (try simp only [Act.put, List.setIfInBounds_toArray, List.set_cons_zero, List.set_cons_succ]))
          (refine wpD_take (i := 1) (v := _) (by simp only [List.getElem?_toArray, List.getElem?_cons_succ, List.getElem?_cons_zero]; rfl) (by kernel_rfl) (by kernel_rfl) (by kernel_rfl) (by rfl) (YS.of_value (by intro w' hSw; (try dsimp only at hSw); go_simp; first | done | with_reducible rfl)) ?_; (try simp only [Act.put, List.setIfInBounds_toArray, List.set_cons_zero, List.set_cons_succ]))
          (refine wpD_take (i := 2) (v := _) (by simp only [List.getElem?_toArray, List.getElem?_cons_succ, List.getElem?_cons_zero]; rfl) (by kernel_rfl) (by kernel_rfl) (by kernel_rfl) (by rfl) (YS.of_value (by intro w' hSw; (try dsimp only at hSw); go_simp; first | done | with_reducible rfl)) ?_; (try simp only [Act.put, List.setIfInBounds_toArray, List.set_cons_zero, List.set_cons_succ]))
          (refine wpD_take (i := 3) (v := _) (by simp only [List.getElem?_toArray, List.getElem?_cons_succ, List.getElem?_cons_zero]; rfl) (by kernel_rfl) (by kernel_rfl) (by kernel_rfl) (by rfl) (YS.of_value (by intro w' hSw; (try dsimp only at hSw); go_simp; first | done | with_reducible rfl)) ?_; (try simp only [Act.put, List.setIfInBounds_toArray, List.set_cons_zero, List.set_cons_succ]))
          (refine wpD_take (i := 4) (v := _) (by simp only [List.getElem?_toArray, List.getElem?_cons_succ, List.getElem?_cons_zero]; rfl) (by kernel_rfl) (by kernel_rfl) (by kernel_rfl) (by rfl) (YS.of_value (by intro w' hSw; (try dsimp only at hSw); go_simp; first | done | with_reducible rfl)) ?_; (try simp only [Act.put, List.setIfInBounds_toArray, List.set_cons_zero, List.set_cons_succ]))
          (refine wpD_take (i := 5) (v := _) (by simp only [List.getElem?_toArray, List.getElem?_cons_succ, List.getElem?_cons_zero]; rfl) (by kernel_rfl) (by kernel_rfl) (by kernel_rfl) (by rfl) (YS.of_value (by intro w' hSw; (try dsimp only at hSw); go_simp; first | done | with_reducible rfl)) ?_; (try simp only [Act.put, List.setIfInBounds_toArray, List.set_cons_zero, List.set_cons_succ]))
          (refine wpD_take (i := 6) (v := _) (by simp only [List.getElem?_toArray, List.getElem?_cons_succ, List.getElem?_cons_zero]; rfl) (by kernel_rfl) (by kernel_rfl) (by kernel_rfl) (by rfl) (YS.of_value (by intro w' hSw; (try dsimp only at hSw); go_simp; first | done | with_reducible rfl)) ?_; (try simp only [Act.put, List.setIfInBounds_toArray, List.set_cons_zero, List.set_cons_succ]))
          (refine wpD_take (i := 7) (v := _) (by simp only [List.getElem?_toArray, List.getElem?_cons_succ, List.getElem?_cons_zero]; rfl) (by kernel_rfl) (by kernel_rfl) (by kernel_rfl) (by rfl) (YS.of_value (by intro w' hSw; (try dsimp only at hSw); go_simp; first | done | with_reducible rfl)) ?_; (try simp only [Act.put, List.setIfInBounds_toArray, List.set_cons_zero, List.set_cons_succ]))
          (refine wpD_take (i := 8) (v := _) (by simp only [List.getElem?_toArray, List.getElem?_cons_succ, List.getElem?_cons_zero]; rfl) (by kernel_rfl) (by kernel_rfl) (by kernel_rfl) (by rfl) (YS.of_value (by intro w' hSw; (try dsimp only at hSw); go_simp; first | done | with_reducible rfl)) ?_; (try simp only [Act.put, List.setIfInBounds_toArray, List.set_cons_zero, List.set_cons_succ]))
          (refine wpD_take (i := 9) (v := _) (by simp only [List.getElem?_toArray, List.getElem?_cons_succ, List.getElem?_cons_zero]; rfl) (by kernel_rfl) (by kernel_rfl) (by kernel_rfl) (by rfl) (YS.of_value (by intro w' hSw; (try dsimp only at hSw); go_simp; first | done | with_reducible rfl)) ?_; (try simp only [Act.put, List.setIfInBounds_toArray, List.set_cons_zero, List.set_cons_succ]))
          (refine wpD_take (i := 10) (v := _) (by simp only [List.getElem?_toArray, List.getElem?_cons_succ, List.getElem?_cons_zero]; rfl) (by kernel_rfl) (by kernel_rfl) (by kernel_rfl) (by rfl) (YS.of_value (by intro w' hSw; (try dsimp only at hSw); go_simp; first | done | with_reducible rfl)) ?_; (try simp only [Act.put, List.setIfInBounds_toArray, List.set_cons_zero, List.set_cons_succ]))
          refine wpD_take (i := 11) (v := .agg ([.int .i64 0, .int .i64 4, .int .i64 3, .int .i64 0, .int .i64 0, .int .i64 0, .int .u32 0, .int .u32 0, .int .u32 0, .int .u64 0, .int .u64 0, .int .u64 0, .int .u64 9]).toArray) (by simp only [List.getElem?_toArray, List.getElem?_cons_succ, List.getElem?_cons_zero]; rfl) (by kernel_rfl) (by kernel_rfl) (by kernel_rfl) (by rfl) (ys_load_mid 27 _ (by rfl) bp 0 (by rfl) ([.int .i64 0, .int .i64 4, .int .i64 3, .int .i64 0, .int .i64 0, .int .i64 0, .int .u32 0, .int .u32 0, .int .u32 0, .int .u64 0, .int .u64 0, .int .u64 0, .int .u64 9]) _ (fun w' h => h.1.range) Tryd.underlying27 rfl sizeNtp) ?_
          (try simp only [Act.put, List.setIfInBounds_toArray, List.set_cons_zero, List.set_cons_succ])
          (refine wpD_take (i := 12) (v := _) (by simp only [List.getElem?_toArray, List.getElem?_cons_succ, List.getElem?_cons_zero]; rfl) (by kernel_rfl) (by kernel_rfl) (by kernel_rfl) (by rfl) (by intro w' hSw; (try dsimp only at hSw); go_simp; (go_at_call 22; ((with_reducible refine (head_any _).mono ?_); rintro e' y1 ⟨rfl, hb⟩; exact ⟨rfl, hSw.below hb⟩))) ?_; (try simp only [Act.put, List.setIfInBounds_toArray, List.set_cons_zero, List.set_cons_succ]))
          (refine wpD_take (i := 13) (v := _) (by simp only [List.getElem?_toArray, List.getElem?_cons_succ, List.getElem?_cons_zero]; rfl) (by kernel_rfl) (by kernel_rfl) (by kernel_rfl) (by rfl) (YS.of_value (by intro w' hSw; (try dsimp only at hSw); go_simp; first | done | with_reducible rfl)) ?_; (try simp only [Act.put, List.setIfInBounds_toArray, List.set_cons_zero, List.set_cons_succ]))
          (refine wpD_take (i := 14) (v := _) (by simp only [List.getElem?_toArray, List.getElem?_cons_succ, List.getElem?_cons_zero]; rfl) (by kernel_rfl) (by kernel_rfl) (by kernel_rfl) (by rfl) (YS.of_value (by intro w' hSw; (try dsimp only at hSw); go_simp; first | done | with_reducible rfl)) ?_; (try simp only [Act.put, List.setIfInBounds_toArray, List.set_cons_zero, List.set_cons_succ]))
          (refine wpD_take (i := 15) (v := _) (by simp only [List.getElem?_toArray, List.getElem?_cons_succ, List.getElem?_cons_zero]; rfl) (by kernel_rfl) (by kernel_rfl) (by kernel_rfl) (by rfl) (YS.of_value (by intro w' hSw; (try dsimp only at hSw); go_simp; first | done | with_reducible rfl)) ?_; (try simp only [Act.put, List.setIfInBounds_toArray, List.set_cons_zero, List.set_cons_succ]))
          (refine wpD_take (i := 16) (v := _) (by simp only [List.getElem?_toArray, List.getElem?_cons_succ, List.getElem?_cons_zero]; rfl) (by kernel_rfl) (by kernel_rfl) (by kernel_rfl) (by rfl) (YS.of_value (by intro w' hSw; (try dsimp only at hSw); go_simp; first | done | with_reducible rfl)) ?_; (try simp only [Act.put, List.setIfInBounds_toArray, List.set_cons_zero, List.set_cons_succ]))
          refine wpD_take (i := 17) (v := .agg (keyL k0 k1).toArray) (by simp only [List.getElem?_toArray, List.getElem?_cons_succ, List.getElem?_cons_zero]; rfl) (by kernel_rfl) (by kernel_rfl) (by kernel_rfl) (by rfl) (ys_load_mid 29 _ (by rfl) bt 1 (by rfl) (keyL k0 k1) _ (fun w' h => Blk.mid h.2.1 1 (keyL k0 k1) rfl) Tryd.underlying29 rfl sizeKey) ?_
          (try simp only [Act.put, List.setIfInBounds_toArray, List.set_cons_zero, List.set_cons_succ])
          refine wpD_take (i := 18) (v := .agg (keyL k0 k1).toArray) (by simp only [List.getElem?_toArray, List.getElem?_cons_succ, List.getElem?_cons_zero]; rfl) (by kernel_rfl) (by kernel_rfl) (by kernel_rfl) (by rfl) (ys_load_mid 29 _ (by rfl) w.heap.size 0 (by rfl) (keyL k0 k1) _ (fun w' h => h.2.2.1.range) Tryd.underlying29 rfl sizeKey) ?_
          (try simp only [Act.put, List.setIfInBounds_toArray, List.set_cons_zero, List.set_cons_succ])
          (refine wpD_take (i := 19) (v := _) (by simp only [List.getElem?_toArray, List.getElem?_cons_succ, List.getElem?_cons_zero]; rfl) (by kernel_rfl) (by kernel_rfl) (by kernel_rfl) (by rfl) (YS.of_value (by intro w' hSw; (try dsimp only at hSw); go_simp; first | done | with_reducible rfl)) ?_; (try simp only [Act.put, List.setIfInBounds_toArray, List.set_cons_zero, List.set_cons_succ]))
          (refine wpD_take (i := 20) (v := _) (by simp only [List.getElem?_toArray, List.getElem?_cons_succ, List.getElem?_cons_zero]; rfl) (by kernel_rfl) (by kernel_rfl) (by kernel_rfl) (by rfl) (YS.of_value (by intro w' hSw; (try dsimp only at hSw); go_simp; first | done | with_reducible rfl)) ?_; (try simp only [Act.put, List.setIfInBounds_toArray, List.set_cons_zero, List.set_cons_succ]))
          (refine wpD_take (i := 21) (v := _) (by simp only [List.getElem?_toArray, List.getElem?_cons_succ, List.getElem?_cons_zero]; rfl) (by kernel_rfl) (by kernel_rfl) (by kernel_rfl) (by rfl) (YS.of_value (by intro w' hSw; (try dsimp only at hSw); go_simp; first | done | with_reducible rfl)) ?_; (try simp only [Act.put, List.setIfInBounds_toArray, List.set_cons_zero, List.set_cons_succ]))
          (refine wpD_take (i := 22) (v := _) (by simp only [List.getElem?_toArray, List.getElem?_cons_succ, List.getElem?_cons_zero]; rfl) (by kernel_rfl) (by kernel_rfl) (by kernel_rfl) (by rfl) (YS.of_value (by intro w' hSw; (try dsimp only at hSw); go_simp; first | done | with_reducible rfl)) ?_; (try simp only [Act.put, List.setIfInBounds_toArray, List.set_cons_zero, List.set_cons_succ]))
          refine wpD_take (i := 23) (v := .agg (keyL k2 k3).toArray) (by simp only [List.getElem?_toArray, List.getElem?_cons_succ, List.getElem?_cons_zero]; rfl) (by kernel_rfl) (by kernel_rfl) (by kernel_rfl) (by rfl) (ys_load_mid 29 _ (by rfl) bt 3 (by rfl) (keyL k2 k3) _ (fun w' h => Blk.mid h.2.1 3 (keyL k2 k3) rfl) Tryd.underlying29 rfl sizeKey) ?_
          (try simp only [Act.put, List.setIfInBounds_toArray, List.set_cons_zero, List.set_cons_succ])
          refine wpD_take (i := 24) (v := .agg (keyL k2 k3).toArray) (by simp only [List.getElem?_toArray, List.getElem?_cons_succ, List.getElem?_cons_zero]; rfl) (by kernel_rfl) (by kernel_rfl) (by kernel_rfl) (by rfl) (ys_load_mid 29 _ (by rfl) n1 0 (by rfl) (keyL k2 k3) _ (fun w' h => h.2.2.2.1.range) Tryd.underlying29 rfl sizeKey) ?_
          (try simp only [Act.put, List.setIfInBounds_toArray, List.set_cons_zero, List.set_cons_succ])
          (refine wpD_take (i := 25) (v := _) (by simp only [List.getElem?_toArray, List.getElem?_cons_succ, List.getElem?_cons_zero]; rfl) (by kernel_rfl) (by kernel_rfl) (by kernel_rfl) (by rfl) (YS.of_value (by intro w' hSw; (try dsimp only at hSw); go_simp; first | done | with_reducible rfl)) ?_; (try simp only [Act.put, List.setIfInBounds_toArray, List.set_cons_zero, List.set_cons_succ]))
          (refine wpD_take (i := 26) (v := _) (by simp only [List.getElem?_toArray, List.getElem?_cons_succ, List.getElem?_cons_zero]; rfl) (by kernel_rfl) (by kernel_rfl) (by kernel_rfl) (by rfl) (YS.of_value (by intro w' hSw; (try dsimp only at hSw); go_simp; first | done | with_reducible rfl)) ?_; (try simp only [Act.put, List.setIfInBounds_toArray, List.set_cons_zero, List.set_cons_succ]))
          (refine wpD_take (i := 27) (v := _) (by simp only [List.getElem?_toArray, List.getElem?_cons_succ, List.getElem?_cons_zero]; rfl) (by kernel_rfl) (by kernel_rfl) (by kernel_rfl) (by rfl) (YS.of_value (by intro w' hSw; (try dsimp only at hSw); go_simp; first | done | with_reducible rfl)) ?_; (try simp only [Act.put, List.setIfInBounds_toArray, List.set_cons_zero, List.set_cons_succ]))
          (refine wpD_take (i := 28) (v := _) (by simp only [List.getElem?_toArray, List.getElem?_cons_succ, List.getElem?_cons_zero]; rfl) (by kernel_rfl) (by kernel_rfl) (by kernel_rfl) (by rfl) (YS.of_value (by intro w' hSw; (try dsimp only at hSw); go_simp; first | done | with_reducible rfl)) ?_; (try simp only [Act.put, List.setIfInBounds_toArray, List.set_cons_zero, List.set_cons_succ]))
          (refine wpD_take (i := 29) (v := _) (by simp only [List.getElem?_toArray, List.getElem?_cons_succ, List.getElem?_cons_zero]; rfl) (by kernel_rfl) (by kernel_rfl) (by kernel_rfl) (by rfl) (YS.of_value (by intro w' hSw; have hc := hSw.2.1.cell (i := 0) rfl; clear hSw; go_simp; first | done | with_reducible rfl)) ?_; (try simp only [Act.put, List.setIfInBounds_toArray, List.set_cons_zero, List.set_cons_succ]))
          (refine wpD_take (i := 30) (v := _) (by simp only [List.getElem?_toArray, List.getElem?_cons_succ, List.getElem?_cons_zero]; rfl) (by kernel_rfl) (by kernel_rfl) (by kernel_rfl) (by rfl) (YS.of_value (by intro w' hSw; (try dsimp only at hSw); go_simp; first | done | with_reducible rfl)) ?_; (try simp only [Act.put, List.setIfInBounds_toArray, List.set_cons_zero, List.set_cons_succ]))
          (refine wpD_take (i := 31) (v := _) (by simp only [List.getElem?_toArray, List.getElem?_cons_succ, List.getElem?_cons_zero]; rfl) (by kernel_rfl) (by kernel_rfl) (by kernel_rfl) (by rfl) (YS.of_value (by intro w' hSw; (try dsimp only at hSw); go_simp; first | done | with_reducible rfl)) ?_; (try simp only [Act.put, List.setIfInBounds_toArray, List.set_cons_zero, List.set_cons_succ]))
          (refine wpD_take (i := 32) (v := _) (by simp only [List.getElem?_toArray, List.getElem?_cons_succ, List.getElem?_cons_zero]; rfl) (by kernel_rfl) (by kernel_rfl) (by kernel_rfl) (by rfl) (YS.of_value (by intro w' hSw; (try dsimp only at hSw); go_simp; first | done | with_reducible rfl)) ?_; (try simp only [Act.put, List.setIfInBounds_toArray, List.set_cons_zero, List.set_cons_succ]))
          (refine wpD_take (i := 33) (v := _) (by simp only [List.getElem?_toArray, List.getElem?_cons_succ, List.getElem?_cons_zero]; rfl) (by kernel_rfl) (by kernel_rfl) (by kernel_rfl) (by rfl) (YS.of_value (by intro w' hSw; (try dsimp only at hSw); go_simp; first | done | with_reducible rfl)) ?_; (try simp only [Act.put, List.setIfInBounds_toArray, List.set_cons_zero, List.set_cons_succ]))
          (refine wpD_take (i := 34) (v := _) (by simp only [List.getElem?_toArray, List.getElem?_cons_succ, List.getElem?_cons_zero]; rfl) (by kernel_rfl) (by kernel_rfl) (by kernel_rfl) (by rfl) (YS.of_value (by intro w' hSw; (try dsimp only at hSw); go_simp; first | done | with_reducible rfl)) ?_; (try simp only [Act.put, List.setIfInBounds_toArray, List.set_cons_zero, List.set_cons_succ]))
          (refine wpD_take (i := 35) (v := _) (by simp only [List.getElem?_toArray, List.getElem?_cons_succ, List.getElem?_cons_zero]; rfl) (by kernel_rfl) (by kernel_rfl) (by kernel_rfl) (by rfl) (YS.of_value (by intro w' hSw; have hc := hSw.2.1.cell (i := 0) rfl; clear hSw; go_simp; first | done | with_reducible rfl)) ?_; (try simp only [Act.put, List.setIfInBounds_toArray, List.set_cons_zero, List.set_cons_succ]))
          (refine wpD_take (i := 36) (v := _) (by simp only [List.getElem?_toArray, List.getElem?_cons_succ, List.getElem?_cons_zero]; rfl) (by kernel_rfl) (by kernel_rfl) (by kernel_rfl) (by rfl) (YS.of_value (by intro w' hSw; (try dsimp only at hSw); go_simp; first | done | with_reducible rfl)) ?_; (try simp only [Act.put, List.setIfInBounds_toArray, List.set_cons_zero, List.set_cons_succ]))
          (refine wpD_take (i := 37) (v := _) (by simp only [List.getElem?_toArray, List.getElem?_cons_succ, List.getElem?_cons_zero]; rfl) (by kernel_rfl) (by kernel_rfl) (by kernel_rfl) (by rfl) (YS.of_value (by intro w' hSw; have hc := hSw.2.2.2.2.1; clear hSw; go_simp; first | done | with_reducible rfl)) ?_; (try simp only [Act.put, List.setIfInBounds_toArray, List.set_cons_zero, List.set_cons_succ]))
          (refine wpD_take (i := 38) (v := _) (by simp only [List.getElem?_toArray, List.getElem?_cons_succ, List.getElem?_cons_zero]; rfl) (by kernel_rfl) (by kernel_rfl) (by kernel_rfl) (by rfl) (YS.of_value (by intro w' hSw; (try dsimp only at hSw); go_simp; first | done | with_reducible rfl)) ?_; (try simp only [Act.put, List.setIfInBounds_toArray, List.set_cons_zero, List.set_cons_succ]))
          (refine wpD_take (i := 39) (v := _) (by simp only [List.getElem?_toArray, List.getElem?_cons_succ, List.getElem?_cons_zero]; rfl) (by kernel_rfl) (by kernel_rfl) (by kernel_rfl) (by rfl) (YS.of_value (by intro w' hSw; (try dsimp only at hSw); go_simp; first | done | with_reducible rfl)) ?_; (try simp only [Act.put, List.setIfInBounds_toArray, List.set_cons_zero, List.set_cons_succ]))
          (refine wpD_take (i := 40) (v := _) (by simp only [List.getElem?_toArray, List.getElem?_cons_succ, List.getElem?_cons_zero]; rfl) (by kernel_rfl) (by kernel_rfl) (by kernel_rfl) (by rfl) (YS.of_value (by intro w' hSw; (try dsimp only at hSw); go_simp; first | done | with_reducible rfl)) ?_; (try simp only [Act.put, List.setIfInBounds_toArray, List.set_cons_zero, List.set_cons_succ]))
          (refine wpD_take (i := 41) (v := _) (by simp only [List.getElem?_toArray, List.getElem?_cons_succ, List.getElem?_cons_zero]; rfl) (by kernel_rfl) (by kernel_rfl) (by kernel_rfl) (by rfl) (YS.of_value (by intro w' hSw; (try dsimp only at hSw); go_simp; first | done | with_reducible rfl)) ?_; (try simp only [Act.put, List.setIfInBounds_toArray, List.set_cons_zero, List.set_cons_succ]))
          (refine wpD_take (i := 42) (v := _) (by simp only [List.getElem?_toArray, List.getElem?_cons_succ, List.getElem?_cons_zero]; rfl) (by kernel_rfl) (by kernel_rfl) (by kernel_rfl) (by rfl) (YS.of_value (by intro w' hSw; (try dsimp only at hSw); go_simp; first | done | with_reducible rfl)) ?_; (try simp only [Act.put, List.setIfInBounds_toArray, List.set_cons_zero, List.set_cons_succ]))
          (refine wpD_take (i := 43) (v := _) (by simp only [List.getElem?_toArray, List.getElem?_cons_succ, List.getElem?_cons_zero]; rfl) (by kernel_rfl) (by kernel_rfl) (by kernel_rfl) (by rfl) (YS.of_value (by intro w' hSw; (try dsimp only at hSw); go_simp; first | done | with_reducible rfl)) ?_; (try simp only [Act.put, List.setIfInBounds_toArray, List.set_cons_zero, List.set_cons_succ]))
          (refine wpD_take (i := 44) (v := _) (by simp only [List.getElem?_toArray, List.getElem?_cons_succ, List.getElem?_cons_zero]; rfl) (by kernel_rfl) (by kernel_rfl) (by kernel_rfl) (by rfl) (by intro w' hSw; (try dsimp only at hSw); go_simp; (go_at_call 23; (have hCC := ccount hSw.2.2.2.2.2.1); ((with_reducible refine hCC.mono ?_); rintro e' y1 ⟨rfl, rfl⟩; exact ⟨rfl, hSw⟩))) ?_; (try simp only [Act.put, List.setIfInBounds_toArray, List.set_cons_zero, List.set_cons_succ]))
          (refine wpD_take (i := 45) (v := _) (by simp only [List.getElem?_toArray, List.getElem?_cons_succ, List.getElem?_cons_zero]; rfl) (by kernel_rfl) (by kernel_rfl) (by kernel_rfl) (by rfl) (YS.of_value (by intro w' hSw; (try dsimp only at hSw); go_simp; first | done | with_reducible rfl)) ?_; (try simp only [Act.put, List.setIfInBounds_toArray, List.set_cons_zero, List.set_cons_succ]))
          (refine wpD_take (i := 46) (v := _) (by simp only [List.getElem?_toArray, List.getElem?_cons_succ, List.getElem?_cons_zero]; rfl) (by kernel_rfl) (by kernel_rfl) (by kernel_rfl) (by rfl) (YS.of_value (by intro w' hSw; (try dsimp only at hSw); go_simp; first | done | with_reducible rfl)) ?_; (try simp only [Act.put, List.setIfInBounds_toArray, List.set_cons_zero, List.set_cons_succ]))
          (refine wpD_take (i := 47) (v := _) (by simp only [List.getElem?_toArray, List.getElem?_cons_succ, List.getElem?_cons_zero]; rfl) (by kernel_rfl) (by kernel_rfl) (by kernel_rfl) (by rfl) (YS.of_value (by intro w' hSw; (try dsimp only at hSw); go_simp; first | done | with_reducible rfl)) ?_; (try simp only [Act.put, List.setIfInBounds_toArray, List.set_cons_zero, List.set_cons_succ]))
          (refine wpD_take (i := 48) (v := _) (by simp only [List.getElem?_toArray, List.getElem?_cons_succ, List.getElem?_cons_zero]; rfl) (by kernel_rfl) (by kernel_rfl) (by kernel_rfl) (by rfl) (YS.of_value (by intro w' hSw; (try dsimp only at hSw); go_simp; first | done | with_reducible rfl)) ?_; (try simp only [Act.put, List.setIfInBounds_toArray, List.set_cons_zero, List.set_cons_succ]))
          (refine wpD_take (i := 49) (v := _) (by simp only [List.getElem?_toArray, List.getElem?_cons_succ, List.getElem?_cons_zero]; rfl) (by kernel_rfl) (by kernel_rfl) (by kernel_rfl) (by rfl) (YS.of_value (by intro w' hSw; (try dsimp only at hSw); go_simp; first | done | with_reducible rfl)) ?_; (try simp only [Act.put, List.setIfInBounds_toArray, List.set_cons_zero, List.set_cons_succ]))
          refine wpD_done (by kernel_rfl) ?_ _
          intro w21 hSz
          have Bz : Below w20.heap.size w20 w21 := hSz.2.2.2.2.2.2
          have U21 := U20.below Bz
          have V21 := V20.below Bz
          have J21 := J20.below Bz
          have C21 := C20.below Bz
          have R21 := R20.below Bz R20.lt
          have B21 := B20.trans (Bz.mono B20.size)
          have M21 := M20.below Bz
          clear hSz hEx hc7 hi7 U20 V20 J20 C20 R20 B20 M20 I20 P20 T20 Bz
          go_wp2_with fail
          clear hkm hw3
          have hACC := t_acc (c := car) 0 C21 hk2 hk3 R21 (by omega) (by simp) hi1 hk52 hi2 hkb (by simp) hfi (M21.1.bs.wide (Nat.zero_le _) (Nat.le_refl _)) hcar hcarm
          have hck : ckN CK' [CKn] = CK' ++ [CKn] := by
            unfold ckN
            exact List.take_of_length_le (by rw [List.length_append]; simp; omega)
          have hI0 : ([ID].take 0 ++ [ID].drop (0 + 1) : List (List Int)) = [] := rfl
          rw [hck, hI0] at hACC
          with_reducible refine hACC.mono ?_
          rintro e w22 ⟨P1, q1, G2, rfl, C22, K22, n22⟩
          have z0 : 0 ∉ G' := C21.low hlo
          have U22 := U21.go K22 n22
          have V22 := V21.go K22 n22
          have J22 := J21.go K22 n22
          have M22 := M21.go K22 n22
          have R22 := R21.go K22 z0
          have B22 : Below w.heap.size w w22 := K22.toBelow B21 B21.size (fun g hg => by have := (C21.rng g hg).1; omega)
          have hCL2 : Hid ((CK' ++ [CKn]).length = k) := by
            show _ = _
            have := hCl.out
            rw [List.length_append]
            simpa using this
          have hCo2 : Hid (∀ d ∈ CK' ++ [CKn], opV s 1 1 d = .tuple #[keyV k0 k1, keyV k2 k3, .int .i64 0]) := fun d hd => by
            rw [List.mem_append] at hd
            rcases hd with hd | hd
            · exact hCo'.out d hd
            · rw [List.mem_singleton.1 hd]; exact hopN.out
          have hl82 : (CK' ++ [CKn]).length ≤ 8 := by rw [List.length_append]; simp; omega
          generalize CK' ++ [CKn] = CK2 at *
          clear U21 V21 J21 M21 R21 B21 C21 K22 n22 z0 hACC hck hI0 hfi hCl hCo'
          go_wp2_with (first
            | ((refine wpl_alloc (by rfl) 27 (by rfl) (.agg (zN).toArray) (zN) zeroNtp rfl ?_; intro w23 H23 s23 b23))
            | (refine wpl_store (by rfl) 27 _ _ (by rfl) w22.heap.size (by rfl) _ (by rfl) [.int .i64 0, .int .i64 4, .int .i64 3, .int .i64 0, .int .i64 0, .int .i64 0, .int .u32 0, .int .u32 0, .int .u32 0, .int .u64 0, .int .u64 0, .int .u64 0, .int .u64 9] rfl 27 _ H23 (by rfl) _ sizeNtp (by rfl) (by simp [Value.oneCell']) ?_; intro w24 H24 s24 g24))
          have g22 : Below w22.heap.size w22 w24 := b23.trans (But.below (g := w22.heap.size) g24 (by omega) (Nat.le_refl _))
          have U24 := U22.below g22
          have V24 := V22.below g22
          have J24 := J22.below g22
          have C24 := C22.below g22
          have R24 := R22.below g22 R22.lt
          have B24 := B22.trans (g22.mono B22.size)
          have M24 := M22.below g22
          clear U22 V22 J22 M22 R22 B22 C22 b23 g24 g22 H23 s23 s24
          have hACC2 := t_none (c := car) C24 hk2 hk3 R24 hl82 (by simp) hi1 hk52 hi2 hkb (fiI_none (fun j hj => by simp at hj)) (M24.1.bs.wide (Nat.zero_le _) (Nat.le_refl _)) hcar hcarm
          with_reducible refine hACC2.mono ?_
          rintro e w25 ⟨rfl, b25⟩
          have U25 := U24.below b25
          have V25 := V24.below b25
          have J25 := J24.below b25
          have C25 := C24.below b25
          have R25 := R24.below b25 R24.lt
          have B25 := B24.trans (b25.mono B24.size)
          have H25 := H24.below b25 H24.lt
          clear U24 V24 J24 M24 R24 B24 C24 H24 b25 hACC2
          go_wp2_with (first
            | (refine wpl_alloc (by rfl) 27 (by rfl) (.agg (zN).toArray) (zN) zeroNtp rfl ?_; intro w26 I26 s26 b26)
            | (refine wpl_store (by rfl) 27 _ _ (by rfl) w25.heap.size (by rfl) _ (by rfl) _ rfl 27 _ I26 (by rfl) _ sizeNtp (by rfl) (by simp [Value.oneCell']) ?_; intro w27 I27 s27 g27))
          have g25 : Below w25.heap.size w25 w27 := b26.trans (But.below (g := w25.heap.size) g27 (by omega) (Nat.le_refl _))
          have U27 := U25.below g25
          have V27 := V25.below g25
          have J27 := J25.below g25
          have C27 := C25.below g25
          have R27 := R25.below g25 R25.lt
          have B27 := B25.trans (g25.mono B25.size)
          have H27 := H25.below g25 H25.lt
          clear U25 V25 J25 R25 B25 C25 H25 b26 g27 g25 I26 I27 s26 s27
          generalize w22.heap.size = bq at *
          have hEx : TrU w27 bq bc lo k0 k1 k2 k3 G2 CK2 ((q : Int) + 1) [] w27.drew := ⟨H27.drew, C27.below ((Below.refl _ _).drew), (Below.refl _ w27).drew⟩
          refine wp_region_det (fun y => TrU w27 bq bc lo k0 k1 k2 k3 G2 CK2 ((q : Int) + 1) [] y) 18 (by kernel_rfl) rfl (by exact hEx) ?_
          simp only [List.replicate]
          refine wpD_take (i := 0) (v := .agg ([.int .i64 0, .int .i64 4, .int .i64 3, .int .i64 0, .int .i64 0, .int .i64 0, .int .u32 0, .int .u32 0, .int .u32 0, .int .u64 0, .int .u64 0, .int .u64 0, .int .u64 9]).toArray) (by simp only [List.getElem?_toArray, List.getElem?_cons_succ, List.getElem?_cons_zero]; rfl) (by kernel_rfl) (by kernel_rfl) (by kernel_rfl) (by rfl) (ys_load_mid 27 _ (by rfl) bq 0 (by rfl) ([.int .i64 0, .int .i64 4, .int .i64 3, .int .i64 0, .int .i64 0, .int .i64 0, .int .u32 0, .int .u32 0, .int .u32 0, .int .u64 0, .int .u64 0, .int .u64 0, .int .u64 9]) _ (fun w' h => h.1.range) Tryd.underlying27 rfl sizeNtp) ?_
          (try simp only [Act.put, List.setIfInBounds_toArray, List.set_cons_zero, List.set_cons_succ])
          (refine wpD_take (i := 1) (v := _) (by simp only [List.getElem?_toArray, List.getElem?_cons_succ, List.getElem?_cons_zero]; rfl) (by kernel_rfl) (by kernel_rfl) (by kernel_rfl) (by rfl) (by intro w' hSw; (try dsimp only at hSw); go_simp; (go_at_call 22; ((with_reducible refine (head_any _).mono ?_); rintro e' y1 ⟨rfl, hb⟩; exact ⟨rfl, hSw.below hb⟩))) ?_; (try simp only [Act.put, List.setIfInBounds_toArray, List.set_cons_zero, List.set_cons_succ]))
          (refine wpD_take (i := 2) (v := _) (by simp only [List.getElem?_toArray, List.getElem?_cons_succ, List.getElem?_cons_zero]; rfl) (by kernel_rfl) (by kernel_rfl) (by kernel_rfl) (by rfl) (YS.of_value (by intro w' hSw; (try dsimp only at hSw); go_simp; first | done | with_reducible rfl)) ?_; (try simp only [Act.put, List.setIfInBounds_toArray, List.set_cons_zero, List.set_cons_succ]))
          (refine wpD_take (i := 3) (v := _) (by simp only [List.getElem?_toArray, List.getElem?_cons_succ, List.getElem?_cons_zero]; rfl) (by kernel_rfl) (by kernel_rfl) (by kernel_rfl) (by rfl) (YS.of_value (by intro w' hSw; (try dsimp only at hSw); go_simp; first | done | with_reducible rfl)) ?_; (try simp only [Act.put, List.setIfInBounds_toArray, List.set_cons_zero, List.set_cons_succ]))
          (refine wpD_take (i := 4) (v := _) (by simp only [List.getElem?_toArray, List.getElem?_cons_succ, List.getElem?_cons_zero]; rfl) (by kernel_rfl) (by kernel_rfl) (by kernel_rfl) (by rfl) (YS.of_value (by intro w' hSw; (try dsimp only at hSw); go_simp; first | done | with_reducible rfl)) ?_; (try simp only [Act.put, List.setIfInBounds_toArray, List.set_cons_zero, List.set_cons_succ]))
          (refine wpD_take (i := 5) (v := _) (by simp only [List.getElem?_toArray, List.getElem?_cons_succ, List.getElem?_cons_zero]; rfl) (by kernel_rfl) (by kernel_rfl) (by kernel_rfl) (by rfl) (YS.of_value (by intro w' hSw; (try dsimp only at hSw); go_simp; first | done | with_reducible rfl)) ?_; (try simp only [Act.put, List.setIfInBounds_toArray, List.set_cons_zero, List.set_cons_succ]))
          (refine wpD_take (i := 6) (v := _) (by simp only [List.getElem?_toArray, List.getElem?_cons_succ, List.getElem?_cons_zero]; rfl) (by kernel_rfl) (by kernel_rfl) (by kernel_rfl) (by rfl) (YS.of_value (by intro w' hSw; (try dsimp only at hSw); go_simp; first | done | with_reducible rfl)) ?_; (try simp only [Act.put, List.setIfInBounds_toArray, List.set_cons_zero, List.set_cons_succ]))
          (refine wpD_take (i := 7) (v := _) (by simp only [List.getElem?_toArray, List.getElem?_cons_succ, List.getElem?_cons_zero]; rfl) (by kernel_rfl) (by kernel_rfl) (by kernel_rfl) (by rfl) (YS.of_value (by intro w' hSw; (try dsimp only at hSw); go_simp; first | done | with_reducible rfl)) ?_; (try simp only [Act.put, List.setIfInBounds_toArray, List.set_cons_zero, List.set_cons_succ]))
          (refine wpD_take (i := 8) (v := _) (by simp only [List.getElem?_toArray, List.getElem?_cons_succ, List.getElem?_cons_zero]; rfl) (by kernel_rfl) (by kernel_rfl) (by kernel_rfl) (by rfl) (YS.of_value (by intro w' hSw; (try dsimp only at hSw); go_simp; first | done | with_reducible rfl)) ?_; (try simp only [Act.put, List.setIfInBounds_toArray, List.set_cons_zero, List.set_cons_succ]))
          (refine wpD_take (i := 9) (v := _) (by simp only [List.getElem?_toArray, List.getElem?_cons_succ, List.getElem?_cons_zero]; rfl) (by kernel_rfl) (by kernel_rfl) (by kernel_rfl) (by rfl) (YS.of_value (by intro w' hSw; (try dsimp only at hSw); go_simp; first | done | with_reducible rfl)) ?_; (try simp only [Act.put, List.setIfInBounds_toArray, List.set_cons_zero, List.set_cons_succ]))
          (refine wpD_take (i := 10) (v := _) (by simp only [List.getElem?_toArray, List.getElem?_cons_succ, List.getElem?_cons_zero]; rfl) (by kernel_rfl) (by kernel_rfl) (by kernel_rfl) (by rfl) (YS.of_value (by intro w' hSw; (try dsimp only at hSw); go_simp; first | done | with_reducible rfl)) ?_; (try simp only [Act.put, List.setIfInBounds_toArray, List.set_cons_zero, List.set_cons_succ]))
          (refine wpD_take (i := 11) (v := _) (by simp only [List.getElem?_toArray, List.getElem?_cons_succ, List.getElem?_cons_zero]; rfl) (by kernel_rfl) (by kernel_rfl) (by kernel_rfl) (by rfl) (YS.of_value (by intro w' hSw; (try dsimp only at hSw); go_simp; first | done | with_reducible rfl)) ?_; (try simp only [Act.put, List.setIfInBounds_toArray, List.set_cons_zero, List.set_cons_succ]))
          (refine wpD_take (i := 12) (v := _) (by simp only [List.getElem?_toArray, List.getElem?_cons_succ, List.getElem?_cons_zero]; rfl) (by kernel_rfl) (by kernel_rfl) (by kernel_rfl) (by rfl) (YS.of_value (by intro w' hSw; (try dsimp only at hSw); go_simp; first | done | with_reducible rfl)) ?_; (try simp only [Act.put, List.setIfInBounds_toArray, List.set_cons_zero, List.set_cons_succ]))
          (refine wpD_take (i := 13) (v := _) (by simp only [List.getElem?_toArray, List.getElem?_cons_succ, List.getElem?_cons_zero]; rfl) (by kernel_rfl) (by kernel_rfl) (by kernel_rfl) (by rfl) (by intro w' hSw; (try dsimp only at hSw); go_simp; (go_at_call 23; (have hCC := ccount hSw.2.1); (rw [hCL2.out] at hCC); ((with_reducible refine hCC.mono ?_); rintro e' y1 ⟨rfl, rfl⟩; exact ⟨rfl, hSw⟩))) ?_; (try simp only [Act.put, List.setIfInBounds_toArray, List.set_cons_zero, List.set_cons_succ]))
          (refine wpD_take (i := 14) (v := _) (by simp only [List.getElem?_toArray, List.getElem?_cons_succ, List.getElem?_cons_zero]; rfl) (by kernel_rfl) (by kernel_rfl) (by kernel_rfl) (by rfl) (YS.of_value (by intro w' hSw; (try dsimp only at hSw); go_simp; first | done | with_reducible rfl)) ?_; (try simp only [Act.put, List.setIfInBounds_toArray, List.set_cons_zero, List.set_cons_succ]))
          (refine wpD_take (i := 15) (v := _) (by simp only [List.getElem?_toArray, List.getElem?_cons_succ, List.getElem?_cons_zero]; rfl) (by kernel_rfl) (by kernel_rfl) (by kernel_rfl) (by rfl) (YS.of_value (by intro w' hSw; (try dsimp only at hSw); go_simp; first | done | with_reducible rfl)) ?_; (try simp only [Act.put, List.setIfInBounds_toArray, List.set_cons_zero, List.set_cons_succ]))
          (refine wpD_take (i := 16) (v := _) (by simp only [List.getElem?_toArray, List.getElem?_cons_succ, List.getElem?_cons_zero]; rfl) (by kernel_rfl) (by kernel_rfl) (by kernel_rfl) (by rfl) (YS.of_value (by intro w' hSw; (try dsimp only at hSw); go_simp; first | done | with_reducible rfl)) ?_; (try simp only [Act.put, List.setIfInBounds_toArray, List.set_cons_zero, List.set_cons_succ]))
          (refine wpD_take (i := 17) (v := _) (by simp only [List.getElem?_toArray, List.getElem?_cons_succ, List.getElem?_cons_zero]; rfl) (by kernel_rfl) (by kernel_rfl) (by kernel_rfl) (by rfl) (YS.of_value (by intro w' hSw; (try dsimp only at hSw); go_simp; first | done | with_reducible rfl)) ?_; (try simp only [Act.put, List.setIfInBounds_toArray, List.set_cons_zero, List.set_cons_succ]))
          refine wpD_done (by kernel_rfl) ?_ _
          intro w28 hSz
          have Bz : Below w27.heap.size w27 w28 := hSz.2.2
          have U28 := U27.below Bz
          have V28 := V27.below Bz
          have J28 := J27.below Bz
          have C28 := C27.below Bz
          have R28 := R27.below Bz R27.lt
          have B28 := B27.trans (Bz.mono B27.size)
          clear hSz hEx U27 V27 J27 R27 B27 C27 H27 Bz
          go_wp2_with fail
          exact ⟨⟨q + 1, by omega, by go_num, G2, CK2, by rw [show ((q + 1 : Nat) : Int) = (q : Int) + 1 from by omega]; exact C28, hCL2, hCo2, U28, V28, J28, R28, B28⟩, by simp [intOf]; omega⟩
        · obtain rfl : q = rq := by omega
          go_wp2_with (first
            | (go_at_call 10; ((with_reducible refine (awake_any _ R0).mono ?_); rintro e w36 ⟨rfl, b36⟩)))
          go_ret
          exact ⟨rfl, B0.trans (b36.mono B0.size)⟩
end Go.Proofs.YtachhbbofemfdaaDoor
namespace Go.Proofs.YtachhbbofemfdaaDoor
open Go.RowKit
set_option linter.unusedSimpArgs false
set_option linter.unusedVariables false
set_option maxRecDepth 100000
/-- two fresh cookies as fields -/
def twoL (ca cb : List Int) : Flds := [(772, ca), (772, cb)]
theorem twoL_v {ca cb : List Int} (h1 : ca.length = 52) (h2 : cb.length = 52) (b1 : Byt ca) (b2 : Byt cb) : AllV (twoL ca cb) ∧ firE (twoL ca cb) = 0 := by
  refine ⟨fun t ht => ?_, by simp [twoL, firE, chkE, h1, h2]⟩
  have : t = (772, ca) ∨ t = (772, cb) := by simpa [twoL] using ht
  rcases this with rfl | rfl
  · exact ⟨by simp [chkE, h1], b1⟩
  · exact ⟨by simp [chkE, h2], b2⟩
theorem rpM_len2 {id ck ca cb : List Int} (k2 k3 : Int) (h1 : id.length = 16) (h2 : ck.length = 52) (h3 : ca.length = 52) (h4 : cb.length = 52) : (rpM id ck (twoL ca cb) k2 k3).length = 248 := by
  unfold rpM
  rw [msgB_len]
  simp [rpF, twoL, fldsB, fldB, bytesB_length, h1, h2, h3, h4]
theorem frs_two (id ck ca cb : List Int) : frs (rpF id ck (twoL ca cb)) = [ck, ca, cb] := rfl
theorem t_rep2 {W : World} {bj r ci : Nat} {id' ca cb : List Int} {s kk g k0 k1 k2 k3 : Int} (no : Int) (B : Option Addr) (d : Nat) (hX : Xs W W.heap.size B (twoL ca cb)) (hBn : B ≠ none) (hd : 2 ≤ d) (hdm : d ≤ 9223372036854775807) (h1 : ca.length = 52) (h2 : cb.length = 52) (b1 : Byt ca) (b2 : Byt cb)
    (hJ : Blk W bj 84 (jarL s kk g)) (hs : U64 s) (hg : Gn g) (hR : Rnd W) (hno : U64 no) (hk0 : U64 k0) (hk1 : U64 k1) (hk2 : U64 k2) (hk3 : U64 k3) (hil : id'.length = 16) (hI : Bs W 0 W.heap.size (some ⟨r, 0, none⟩) id') (hic : 16 ≤ ci) (hicc : ci ≤ 9223372036854775807) :
    Calls Tryd.prog 17 #[.pointer (some ⟨bj, 0, none⟩), .agg (tktL (some ⟨r, 0, none⟩) 16 ci k0 k1 k2 k3).toArray, ntp 0 4 3 0 0 0 0 0 0 0 0 0 9, .slice B 2 d, .int .u64 no] W fun e w' => ∃ A c, e = .returned (.tuple #[.slice A 248 c, .int .i64 0]) ∧ Ow w' W.heap.size A c (rpM id' (ckB s g no k0 k1 k2 k3) (twoL ca cb) k2 k3) ∧ Below W.heap.size W w' := by
  have hl : (rpM id' (ckB s g no k0 k1 k2 k3) (twoL ca cb) k2 k3).length = 248 := rpM_len2 k2 k3 hil (ckB_len _ _ _ _ _ _ _) h1 h2
  refine (greply_ok bj (some ⟨r, 0, none⟩) 16 ci k0 k1 k2 k3 0 4 3 0 0 0 0 0 0 0 0 0 9 no B 2 d (twoL ca cb) W rfl hX hd hdm (fun k hk => ?_) s kk g id' hJ hs hg hR hno hk0 hk1 hk2 hk3 (fun h => absurd h hBn) hI hil hic hicc (fun h => by cases h) (by omega) (by omega) (by omega) (by omega) (by omega) (by omega) (by omega) ?_).mono fun e w' ⟨A, c, n, q1, q2, q3, q4⟩ => ?_
  · have : k = 0 ∨ k = 1 := by omega
    rcases this with rfl | rfl
    · show ca.length ≤ _; omega
    · show cb.length ≤ _; omega
  · rw [exN]
    unfold grE
    rw [if_neg (by omega), if_neg (by rw [(twoL_v h1 h2 b1 b2).2]; omega), if_neg (by simp [twoL])]
  · obtain rfl : 248 = n := hl.symm.trans q2
    exact ⟨A, c, q1, q3, q4⟩
theorem t_acc2 {lo b : Nat} {G : List Nat} {k0 k1 k2 k3 N : Int} {CK I : List (List Int)} {W : World} {A : Option Addr} {c : Nat} {id ck ca cb : List Int} (k : Nat) (h : Cli W lo b G k0 k1 k2 k3 CK N I) (hk2 : U64 k2) (hk3 : U64 k3) (hR : Rnd W) (hn8 : CK.length ≤ 8) (hn28 : I.length ≤ 8) (h1 : id.length = 16) (h2 : ck.length = 52) (b1 : Byt id) (b2 : Byt ck) (h3 : ca.length = 52) (h4 : cb.length = 52) (b3 : Byt ca) (b4 : Byt cb) (hk : k < I.length) (hF : fiI I id = k) (hB : Bs W 0 W.heap.size A (rpM id ck (twoL ca cb) k2 k3)) (hnc : 248 ≤ c) (hc : c ≤ 9223372036854775807) :
    Calls Tryd.prog 24 #[.pointer (some ⟨b, 0, none⟩), .slice A 248 c] W fun e w' => ∃ P1 q1 G', e = .returned (.tuple #[ntp 0 4 3 0 0 0 0 0 0 0 0 0 9, .slice P1 4 q1, .int .i64 0]) ∧ Cli w' lo b G' k0 k1 k2 k3 (ckN CK [ck, ca, cb]) N (I.take k ++ I.drop (k + 1)) ∧ Kp W G w' ∧ Nw W G G' := by
  obtain ⟨e1, e2, e3, e4, e5⟩ := rpM_all (L := twoL ca cb) k2 k3 h1 h2 b1 b2 (twoL_v h3 h4 b3 b4).1 (by simp [twoL])
  have hfr : frs (spL (rpM id ck (twoL ca cb) k2 k3)) = [ck, ca, cb] := by rw [e3]; exact frs_two _ _ _ _
  refine (cacc A 248 c (rpM id ck (twoL ca cb) k2 k3) 0 4 3 0 0 0 0 0 0 0 0 0 9 h hk2 hk3 hR hn8 hn28 (rpM_len2 k2 k3 h1 h2 h3 h4) hB hnc hc (by omega) e1 e2 e5 k hk (by rw [e4]; exact hF) (by
    refine frB_yes fun d hd => ?_
    rw [hfr] at hd
    have : d = ck ∨ d = ca ∨ d = cb := by simpa using hd
    rcases this with rfl | rfl | rfl
    · exact h2
    · exact h3
    · exact h4)).mono fun e w' ⟨P1, p1, q1, G', z1, z2, z3, z4, z5, z6⟩ => ?_
  have hl : (spL (rpM id ck (twoL ca cb) k2 k3)).length = 4 := by rw [e3]; rfl
  obtain rfl : 4 = p1 := hl.symm.trans z2
  rw [hfr] at z4
  exact ⟨P1, q1, G', z1, z4, z5, z6⟩
theorem t_none2 {lo b : Nat} {G : List Nat} {k0 k1 k2 k3 N : Int} {CK I : List (List Int)} {W : World} {A : Option Addr} {c : Nat} {id ck ca cb : List Int} (h : Cli W lo b G k0 k1 k2 k3 CK N I) (hk2 : U64 k2) (hk3 : U64 k3) (hR : Rnd W) (hn8 : CK.length ≤ 8) (hn28 : I.length ≤ 8) (h1 : id.length = 16) (h2 : ck.length = 52) (b1 : Byt id) (b2 : Byt ck) (h3 : ca.length = 52) (h4 : cb.length = 52) (b3 : Byt ca) (b4 : Byt cb) (hF : fiI I id = -1) (hB : Bs W 0 W.heap.size A (rpM id ck (twoL ca cb) k2 k3)) (hnc : 248 ≤ c) (hc : c ≤ 9223372036854775807) :
    Calls Tryd.prog 24 #[.pointer (some ⟨b, 0, none⟩), .slice A 248 c] W fun e w' => e = .returned (.tuple #[ntp0, .slice none 0 0, .int .i64 11]) ∧ Below W.heap.size W w' := by
  obtain ⟨e1, e2, e3, e4, e5⟩ := rpM_all (L := twoL ca cb) k2 k3 h1 h2 b1 b2 (twoL_v h3 h4 b3 b4).1 (by simp [twoL])
  exact cacc_none A 248 c _ 0 4 3 0 0 0 0 0 0 0 0 0 9 h hk2 hk3 hR hn8 hn28 (rpM_len2 k2 k3 h1 h2 h3 h4) hB hnc hc (by omega) e1 e2 e5 (by rw [e4]; exact hF)
end Go.Proofs.YtachhbbofemfdaaDoor
namespace Go.Proofs.YtachhbbofemfdaaDoor
open Go.RowKit
set_option linter.unusedSimpArgs false
set_option linter.unusedVariables false
set_option maxRecDepth 100000
/-- the identifier of request i -/
def idN (i : Nat) : List Int := idB ((i : Int) + 1) i
theorem idN_len (i : Nat) : (idN i).length = 16 := idB_len _ _
theorem idN_byt (i : Nat) : Byt (idN i) := idB_byt _ _
theorem idN_7 {i : Nat} (h : i < 200) : atB (idN i) 7 = (i : Int) + 1 := by
  show (bytesB 8 ((i : Int) + 1) ++ bytesB 8 i).getD 7 0 = _
  rw [List.getD_eq_getElem?_getD, List.getElem?_append_left (by rw [bytesB_length]; omega)]
  show ((bytesB 7 (((i : Int) + 1) / 256) ++ [((i : Int) + 1) % 256])[7]?).getD 0 = _
  rw [List.getElem?_append_right (by rw [bytesB_length]; omega), bytesB_length]
  show ((i : Int) + 1) % 256 = _
  omega
theorem idN_inj {i j : Nat} (hi : i < 200) (hj : j < 200) (h : idN i = idN j) : i = j := by
  have h1 := idN_7 hi
  have h2 := idN_7 hj
  rw [h] at h1
  omega
/-- the place of an identifier among those that wait -/
theorem fiI_idN : ∀ (W : List Nat) (j : Nat), j < 200 → (∀ x ∈ W, x < 200) → fiI (W.map idN) (idN j) = match W.findIdx? (· == j) with | some k => (k : Int) | none => -1 := fun W j hj hW => by
  unfold fiI
  have e : (W.map idN).findIdx? (· == idN j) = W.findIdx? (· == j) := by
    induction W with
    | nil => rfl
    | cons a W ih =>
      have ih' := ih fun x hx => hW x (by simp [hx])
      have ha := hW a (by simp)
      have hb : (idN a == idN j) = (a == j) := by
        rw [Bool.eq_iff_iff, beq_iff_eq, beq_iff_eq]
        exact ⟨fun h => idN_inj ha hj h, fun h => by rw [h]⟩
      rw [List.map_cons, List.findIdx?_cons, List.findIdx?_cons, hb, ih']
  rw [e]
  cases W.findIdx? (· == j) <;> rfl
theorem wtN_idN (W : List Nat) (i : Nat) : wtN (W.map idN) (idB ((i : Int) + 1) i) = ((if W.length = 8 then W.drop 1 else W) ++ [i]).map idN := by
  unfold wtN
  rw [List.length_map, List.map_append]
  by_cases h : W.length = 8
  · rw [if_pos h, if_pos h, List.map_drop]; rfl
  · rw [if_neg h, if_neg h]; rfl
theorem del_idN (W : List Nat) (k : Nat) : (W.map idN).take k ++ (W.map idN).drop (k + 1) = (W.take k ++ W.drop (k + 1)).map idN := by
  rw [List.map_append, List.map_take, List.map_drop]
/-- those that wait behind i requests, where the reply number `ah` is accepted at once -/
def wtS (ah : Nat) : Nat → List Nat
  | 0 => []
  | i + 1 => let V := (if (wtS ah i).length = 8 then (wtS ah i).drop 1 else wtS ah i) ++ [i]
    if i = ah then V.take (V.length - 1) else V
/-- the cookies left then -/
def ckS (ah : Nat) : Nat → Nat
  | 0 => 8
  | i + 1 => if i = ah then min 8 (ckS ah i - 1 + 3) else ckS ah i - 1
/-- the three courses: how many requests, and which reply is accepted at once (99: none) -/
def crs (t : Nat) : Nat × Nat := if t = 1 then (9, 0) else if t = 2 then (11, 7) else (8, 99)
theorem crs_facts : ∀ t, t < 3 → ∀ i, i < (crs t).1 → 1 ≤ ckS (crs t).2 i ∧ ckS (crs t).2 i ≤ 8 ∧ (wtS (crs t).2 i).length ≤ 8 ∧ (∀ x ∈ wtS (crs t).2 i, x < i) := by decide
/-- those that wait ahead of the second offer of reply j -/
def wt3 (t j : Nat) : List Nat := (wtS (crs t).2 (crs t).1).filter (j ≤ ·)
def cnt3 (t j : Nat) : Nat := min 8 (ckS (crs t).2 (crs t).1 + 3 * ((wtS (crs t).2 (crs t).1).filter (· < j)).length)
theorem wt3_facts : ∀ t, t < 3 → ∀ j, j < (crs t).1 → (wt3 t j).length ≤ 8 ∧ (∀ x ∈ wt3 t j, x < 200) ∧
    (if j ≠ (crs t).2 ∧ (crs t).1 ≤ j + 9 then (wt3 t j).findIdx? (· == j) = some 0 ∧ (wt3 t j).drop 1 = wt3 t (j + 1) else (wt3 t j).findIdx? (· == j) = none ∧ wt3 t j = wt3 t (j + 1)) := by decide
end Go.Proofs.YtachhbbofemfdaaDoor
