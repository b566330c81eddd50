/- The server: Open. Lists of fields whose cells are the call's own and whose bytes lie in older memory. No function of the program occurs here. append of fields to a list of fields of the call's own: the run, and the law at a step of a region that draws. No function of the program occurs here. -/
import Derived.Test.YtachhbbofemfdaaDoorGXz10
import Derived.Test.YtachhbbofemfdaaDoorGXz14
import Derived.Test.YtachhbbofemfdaaDoorGXz3
namespace Go.Proofs.YtachhbbofemfdaaDoor
open Go.RowKit
set_option linter.unusedSimpArgs false
set_option linter.unusedVariables false
set_option maxRecDepth 100000
/-- two results of two types in memory, and one more -/
theorem res_ctx {P : Program} {w : World} {fn : Func} {tmps : Array Value} {c c' x : Tmp} {T T' U U' : TypeId} (h : fn.results = #[.cell c T, .cell c' U, .tmp x]) {g g' : Nat} {cs cs' : List Value} {d d' : TypeDesc} (hp : tmps.getD c undef = .pointer (some ⟨g, 0, none⟩)) (hp' : tmps.getD c' undef = .pointer (some ⟨g', 0, none⟩)) (hB : Blk w g T' cs) (hB' : Blk w g' U' cs') (hu : P.underlying T = some d) (hd : d.isRow = true) (hu' : P.underlying U = some d') (hd' : d'.isRow = true) {n n' : Nat} (hi : (P.info? T).map (·.size) = some n) (hn : cs.length = n) (hi' : (P.info? U).map (·.size) = some n') (hn' : cs'.length = n') {v : Value} (hv : tmps.getD x undef = v) :
    (results fn tmps).run P w = .ok (.tuple #[.agg cs.toArray, .agg cs'.toArray, v]) w := by
  have hl := load_res hB hu hd hi hn
  have hl' := load_res hB' hu' hd' hi' hn'
  subst hv
  rw [Array.getD_eq_getD_getElem?] at hp hp'
  simp [results, h, hp, hp', asAddr, Sem.run_bind, hl, hl']
abbrev tktL (A : Option Addr) (n c : Nat) (a b d e : Int) : List Value := [.slice A n c, .int .u64 a, .int .u64 b, .int .u64 d, .int .u64 e]
theorem sizeTk : (Tryd.prog.info? 31).map (·.size) = some 5 := by kernel_rfl
theorem zeroTk : (Tryd.prog.info? 31).map (·.zero) = some (some (.agg (tktL none 0 0 0 0 0 0).toArray)) := by kernel_rfl
/-- the cookie of a request -/
def spC (b : List Int) : List Int := fdD (spL b) 516
theorem fd_len (L : Flds) (kd : Int) : fdB L kd = false → (fdD L kd).length = 0 := by
  intro hb
  unfold fdB at hb
  unfold fdD
  cases hf : L.find? fun t => t.1 == kd with
  | none => simp
  | some t => rw [hf] at hb; cases hb
theorem opV_val (s k g : Int) (l : List Int) : opV s k g l = .tuple #[keyV (opK s k g l 0) (opK s k g l 1), keyV (opK s k g l 2) (opK s k g l 3), .int .i64 (opE s k g l)] := rfl
theorem fB_u {l : List Int} (h : Byt l) (o : Nat) : U64 (fB l o 8) := by
  have := fB_rng h o 8
  have e : (256 : Int) ^ 8 = 18446744073709551616 := by decide
  exact ⟨this.1, by omega⟩
theorem opK_u64 (s k g : Int) {l : List Int} (h : Byt l) (i : Nat) : U64 (opK s k g l i) := by
  unfold opK
  split
  · exact xr_u64 (fB_u h _) (padF_u64 _ _ _ _)
  · exact ⟨by omega, by omega⟩
theorem spC_byt {b : List Int} (h : Byt b) : Byt (spC b) := by
  have hR : Byt (dcR b) := by unfold dcR; split; exact h.drop _; exact Byt.nil
  have hv : ∀ t ∈ spL b, Byt t.2 := by
    obtain ⟨h1, h2⟩ := prs_back hR
    intro t ht
    unfold spL at ht
    by_cases hE : prsE (dcR b) = 0
    · exact ((h1 hE).2.1 t ht).2
    · rw [(h2 hE).1] at ht; cases ht
  unfold spC fdD
  cases hf : (spL b).find? fun t => t.1 == 516 with
  | none => exact Byt.nil
  | some t => exact hv t (List.mem_of_find?_eq_some hf)
set_option maxRecDepth 100000 in
set_option maxHeartbeats 8000000 in
theorem gopen_err (bj : Nat) (A : Option Addr) (n c : Nat) (b : List Int) (w : World) (hn : b.length = n) (h : Bs w 0 w.heap.size A b) (hnc : n ≤ c) (hc : c ≤ 9223372036854775807) (hm : n ≤ 1000000) (hE : spE b ≠ 0) :
    Calls Tryd.prog 11 #[.pointer (some ⟨bj, 0, none⟩), .slice A n c] w fun e w' => e = .returned (.tuple #[ntp0, .agg (tktL none 0 0 0 0 0 0).toArray, .int .i64 (spE b)]) ∧ Below w.heap.size w w' := by
  have hS := fun W hB => split_err A n c b W hn hB hnc hc hm hE
  have hE' : (spE b != 0) = true := by simpa using hE
  generalize spE b = E at hS hE' ⊢
  clear hE
  go_enter Tryd.func11, Tryd.ntmps11
  go_wp2_with (first
    | (refine wpl_alloc (by rfl) 27 (by rfl) (.agg (zN).toArray) (zN) zeroNtp rfl ?_; intro w1 J1 s1 b1)
    | ((refine wpl_alloc (by rfl) 31 (by rfl) (.agg (tktL none 0 0 0 0 0 0).toArray) (tktL none 0 0 0 0 0 0) zeroTk rfl ?_; intro w2 T2 s2 b2); (have J2 := J1.below b2 (by omega)); (have B2 := b1.trans (b2.mono (by omega))))
    | (go_at_call 30; ((with_reducible refine (hS _ ((h.below B2 (Nat.le_refl _)).wide (Nat.le_refl _) B2.size)).mono ?_); rintro e w3 ⟨rfl, b3⟩; (have J3 := J2.below b3 J2.lt); (have T3 := T2.below b3 T2.lt); (have B3 := B2.trans (b3.mono B2.size)); (have z3 := b3.size)))
    | ((refine wpl_alloc (by rfl) 75 (by rfl) (.agg (ptZ).toArray) (ptZ) zeroPt rfl ?_; intro w4 P4 s4 b4); (have J4 := J3.below b4 J3.lt); (have T4 := T3.below b4 T3.lt); (have B4 := B3.trans (b4.mono B3.size)))
    | ((refine wpl_store (by rfl) 75 _ _ (by rfl) w3.heap.size (by rfl) _ (by rfl) _ rfl 75 _ P4 (by rfl) _ sizePt (by rfl) (by simp [Value.oneCell']) ?_; intro w5 P5 s5 g5); (have J5 := J4.but g5 (Nat.ne_of_lt J3.lt)); (have T5 := T4.but g5 (Nat.ne_of_lt T3.lt)); (have B5 := B4.trans (g5.below B4.size B3.size)))
    | ((refine wpl_store (by rfl) 27 _ _ (by rfl) w.heap.size (by rfl) _ (by rfl) _ rfl 27 _ J5 (by rfl) _ sizeNtp (by rfl) (by simp [Value.oneCell']) ?_; intro w6 J6 s6 g6); (have T6 := T5.but g6 (by omega)); (have B6 := B5.trans (g6.below B5.size (Nat.le_refl _))))
    | ((refine wpl_store (by rfl) 31 _ _ (by rfl) w1.heap.size (by rfl) _ (by rfl) _ rfl 31 _ T6 (by rfl) _ sizeTk (by rfl) (by simp [Value.oneCell']) ?_; intro w7 T7 s7 g7); (have J7 := J6.but g7 (by omega)); (have B7 := B6.trans (g7.below B6.size (by omega)))))
  refine bodyPost_ret (res_ctx Tryd.results11 (by rfl) (by rfl) J7 T7 Tryd.underlying27 rfl Tryd.underlying31 rfl sizeNtp (by rfl) sizeTk (by rfl) (by rfl)) rfl ?_
  exact ⟨rfl, B7⟩
set_option maxRecDepth 100000 in
set_option maxHeartbeats 8000000 in
theorem gopen_form (bj : Nat) (s kk g : Int) (A : Option Addr) (n c : Nat) (b : List Int) (w : World) (hJ : Blk w bj 84 (jarL s kk g)) (hs : U64 s) (hg : Gn g) (hkk : 1 ≤ kk ∧ kk ≤ 8) (hR : Rnd w) (hn : b.length = n) (h : Bs w 0 w.heap.size A b) (hnc : n ≤ c) (hc : c ≤ 9223372036854775807) (hm : n ≤ 1000000) (hE : spE b = 0) (l v m st po pr rd rp id ref org rec xmt : Int) (hV : dcV b = ntp l v m st po pr rd rp id ref org rec xmt) (hT : (spC b).length ≠ 52) :
    Calls Tryd.prog 11 #[.pointer (some ⟨bj, 0, none⟩), .slice A n c] w fun e w' => e = .returned (.tuple #[ntp0, .agg (tktL none 0 0 0 0 0 0).toArray, .int .i64 7]) ∧ Below w.heap.size w w' := by
  have hS := fun W hB => split_ok A n c b W hn hB hnc hc hm hE l v m st po pr rd rp id ref org rec xmt hV
  obtain ⟨hI16, hA12⟩ : (spI b).length = 16 ∧ (spA b).length = 12 := by
    rcases spE_cases b with ⟨h1, h2⟩ | ⟨h1, h2, h3⟩ | ⟨h1, h2, h3, h4⟩ | ⟨h1, h2, h3, h4, h5⟩
    · exact absurd (h2.symm.trans hE) h1
    · exact absurd (h3.symm.trans hE) h2
    · rw [h4] at hE; cases hE
    · exact ⟨h4, h3⟩
  have hDl := spB_len hn
  have hDb : Bs w 0 w.heap.size A (spB b) := h.take _
  have hsz : ∀ q, (dtL (spL b) q).length ≤ 256 := fun q => dt_small (by unfold dcR; split; exact h.byt.drop _; exact Byt.nil)
  have hP := fun k0 k1 A1 n1 c1 A2 n2 c2 A4 c4 W hk0 hk1 h3 h4 hc4 hcc4 hR => proved_any l v m st po pr rd rp id ref org rec xmt A1 n1 c1 A2 n2 c2 A (n - 12) c A4 c4 k0 k1 (spB b) (spA b) W hDl h3 (by omega) (by omega) hc hA12 h4 hc4 hcc4 hk0 hk1 hR
  have hFi := fun W A c N hN hX hc hcc => find_u A c (spL b) N 516 W hN hX hc hcc (fun q _ => Nat.le_trans (hsz q) (by omega))
  have hFB := fd_len (spL b) 516
  have hO := fun W A N c hN hB hc hcc hJ hR => open_any bj s kk g A N c (spC b) W hN hB hc hcc hs hg hkk hJ hR
  have hFB' : fdB (spL b) 516 = false → (spC b).length = 0 := hFB
  clear hFB
  have hFB := hFB'
  clear hFB'
  generalize hCC : spC b = CC at *
  obtain ⟨N9, hN9⟩ : ∃ N, CC.length = N := ⟨_, rfl⟩
  have hFi' : ∀ (W : World) (A : Option Addr) (c N : Nat), (spL b).length = N → Xs W W.heap.size A (spL b) → N ≤ c → c ≤ 9223372036854775807 → Calls Tryd.prog 31 #[.slice A N c, .int .i64 516] W fun e w' => ∃ A' c', e = .returned (.tuple #[.slice A' N9 c', .bool (fdB (spL b) 516)]) ∧ Ow w' W.heap.size A' c' CC ∧ Below W.heap.size W w' := fun W A c N h1 h2 h3 h4 => (hFi W A c N h1 h2 h3 h4).mono fun e w' ⟨A1, c1, n1, e1, e2, e3⟩ => by
    have hx : fdD (spL b) 516 = CC := hCC
    rw [hx] at e2 e3
    obtain rfl : N9 = n1 := hN9.symm.trans e2
    exact ⟨A1, c1, e1, e3⟩
  clear hFi
  have hFi := hFi'
  clear hFi'
  generalize fdB (spL b) 516 = IB at hFi hFB
  generalize spL b = L at hS hFi hsz
  have hcase : IB = false ∨ (IB = true ∧ N9 ≠ 52) := by
    cases IB with
    | false => exact .inl rfl
    | true => exact .inr ⟨rfl, by omega⟩
  have d9 : IB = true → ((N9 : Int) != 52) = true := fun _ => by simp; omega
  clear hP hO hFB hE hV hT hCC hN9
  rcases hcase with rfl | ⟨rfl, h9⟩
  · skip
    go_enter Tryd.func11, Tryd.ntmps11
    go_wp2_with (first
      | (refine wpl_alloc (by rfl) 27 (by rfl) (.agg (zN).toArray) (zN) zeroNtp rfl ?_; intro w1 J1 s1 b1)
      | ((refine wpl_alloc (by rfl) 31 (by rfl) (.agg (tktL none 0 0 0 0 0 0).toArray) (tktL none 0 0 0 0 0 0) zeroTk rfl ?_; intro w2 T2 s2 b2); (have J2 := J1.below b2 (by omega)); (have B2 := b1.trans (b2.mono (by omega))))
      | (go_at_call 30; ((with_reducible refine (hS _ ((h.below B2 (Nat.le_refl _)).wide (Nat.le_refl _) B2.size)).mono ?_); rintro e w3 ⟨P1, p1, q1, P2, q2, P4, q4, rfl, hL1, X3, OI3, OA3, b3⟩; (have J3 := J2.below b3 J2.lt); (have T3 := T2.below b3 T2.lt); (have B3 := B2.trans (b3.mono B2.size)); (have z3 := b3.size)))
      | ((refine wpl_alloc (by rfl) 75 (by rfl) (.agg (ptZ).toArray) (ptZ) zeroPt rfl ?_; intro w4 P4' s4 b4); (have J4 := J3.below b4 J3.lt); (have T4 := T3.below b4 T3.lt); (have B4 := B3.trans (b4.mono B3.size)))
      | ((refine wpl_store (by rfl) 75 _ _ (by rfl) w3.heap.size (by rfl) _ (by rfl) _ rfl 75 _ P4' (by rfl) _ sizePt (by rfl) (by simp [Value.oneCell']) ?_; intro w5 P5 s5 g5); (have J5 := J4.but g5 (Nat.ne_of_lt J3.lt)); (have T5 := T4.but g5 (Nat.ne_of_lt T3.lt)); (have B5 := B4.trans (g5.below B4.size B3.size)); (have B35 : Below w3.heap.size w3 w5 := b4.trans (But.below (g := w3.heap.size) g5 (Nat.le_of_lt s4) (Nat.le_refl _))); (have X5 := X3.below B35 (Nat.le_refl _)); (have OI5 := OI3.below B35 (Nat.le_refl _)); (have OA5 := OA3.below B35 (Nat.le_refl _)); (have hp := X5.cap); rw [hL1] at hp)
      | (refine wpl_loadf (by rfl) 42 _ (by rfl) w3.heap.size 13 (by rfl) _ _ P5 _ rfl _ Tryd.underlying42 rfl ?_)
      | (go_at_call 31; ((with_reducible refine (hFi _ _ _ _ hL1 X5.xs hp.1 hp.2.1).mono ?_); rintro e w6 ⟨A6, c6, rfl, O6, b6⟩; (have J6 := J5.below b6 J5.lt); (have T6 := T5.below b6 T5.lt); (have P6 := P5.below b6 P5.lt); (have B6 := B5.trans (b6.mono B5.size)); (have OI6 := OI5.below b6 (Nat.le_refl _)); (have OA6 := OA5.below b6 (Nat.le_refl _))))
      | ((refine wpl_store (by rfl) 27 _ _ (by rfl) w.heap.size (by rfl) _ (by rfl) _ rfl 27 _ J6 (by rfl) _ sizeNtp (by rfl) (by simp [Value.oneCell']) ?_; intro w7 J7 s7 g7); (have T7 := T6.but g7 (by omega)); (have B7 := B6.trans (g7.below B6.size (Nat.le_refl _))))
        | ((refine wpl_store (by rfl) 31 _ _ (by rfl) w1.heap.size (by rfl) _ (by rfl) _ rfl 31 _ T7 (by rfl) _ sizeTk (by rfl) (by simp [Value.oneCell']) ?_; intro w8 T8 s8 g8); (have J8 := J7.but g8 (by omega)); (have B8 := B7.trans (g8.below B7.size (by omega)))))
    refine bodyPost_ret (res_ctx Tryd.results11 (by rfl) (by rfl) J8 T8 Tryd.underlying27 rfl Tryd.underlying31 rfl sizeNtp (by rfl) sizeTk (by rfl) (by rfl)) rfl ?_
    exact ⟨rfl, B8⟩
  · have d9' := d9 rfl
    clear d9 h9
    go_enter Tryd.func11, Tryd.ntmps11
    go_wp2_with (first
      | (refine wpl_alloc (by rfl) 27 (by rfl) (.agg (zN).toArray) (zN) zeroNtp rfl ?_; intro w1 J1 s1 b1)
      | ((refine wpl_alloc (by rfl) 31 (by rfl) (.agg (tktL none 0 0 0 0 0 0).toArray) (tktL none 0 0 0 0 0 0) zeroTk rfl ?_; intro w2 T2 s2 b2); (have J2 := J1.below b2 (by omega)); (have B2 := b1.trans (b2.mono (by omega))))
      | (go_at_call 30; ((with_reducible refine (hS _ ((h.below B2 (Nat.le_refl _)).wide (Nat.le_refl _) B2.size)).mono ?_); rintro e w3 ⟨P1, p1, q1, P2, q2, P4, q4, rfl, hL1, X3, OI3, OA3, b3⟩; (have J3 := J2.below b3 J2.lt); (have T3 := T2.below b3 T2.lt); (have B3 := B2.trans (b3.mono B2.size)); (have z3 := b3.size)))
      | ((refine wpl_alloc (by rfl) 75 (by rfl) (.agg (ptZ).toArray) (ptZ) zeroPt rfl ?_; intro w4 P4' s4 b4); (have J4 := J3.below b4 J3.lt); (have T4 := T3.below b4 T3.lt); (have B4 := B3.trans (b4.mono B3.size)))
      | ((refine wpl_store (by rfl) 75 _ _ (by rfl) w3.heap.size (by rfl) _ (by rfl) _ rfl 75 _ P4' (by rfl) _ sizePt (by rfl) (by simp [Value.oneCell']) ?_; intro w5 P5 s5 g5); (have J5 := J4.but g5 (Nat.ne_of_lt J3.lt)); (have T5 := T4.but g5 (Nat.ne_of_lt T3.lt)); (have B5 := B4.trans (g5.below B4.size B3.size)); (have B35 : Below w3.heap.size w3 w5 := b4.trans (But.below (g := w3.heap.size) g5 (Nat.le_of_lt s4) (Nat.le_refl _))); (have X5 := X3.below B35 (Nat.le_refl _)); (have OI5 := OI3.below B35 (Nat.le_refl _)); (have OA5 := OA3.below B35 (Nat.le_refl _)); (have hp := X5.cap); rw [hL1] at hp)
      | (refine wpl_loadf (by rfl) 42 _ (by rfl) w3.heap.size 13 (by rfl) _ _ P5 _ rfl _ Tryd.underlying42 rfl ?_)
      | (go_at_call 31; ((with_reducible refine (hFi _ _ _ _ hL1 X5.xs hp.1 hp.2.1).mono ?_); rintro e w6 ⟨A6, c6, rfl, O6, b6⟩; (have J6 := J5.below b6 J5.lt); (have T6 := T5.below b6 T5.lt); (have P6 := P5.below b6 P5.lt); (have B6 := B5.trans (b6.mono B5.size)); (have OI6 := OI5.below b6 (Nat.le_refl _)); (have OA6 := OA5.below b6 (Nat.le_refl _))))
      | ((refine wpl_store (by rfl) 27 _ _ (by rfl) w.heap.size (by rfl) _ (by rfl) _ rfl 27 _ J6 (by rfl) _ sizeNtp (by rfl) (by simp [Value.oneCell']) ?_; intro w7 J7 s7 g7); (have T7 := T6.but g7 (by omega)); (have B7 := B6.trans (g7.below B6.size (Nat.le_refl _))))
        | ((refine wpl_store (by rfl) 31 _ _ (by rfl) w1.heap.size (by rfl) _ (by rfl) _ rfl 31 _ T7 (by rfl) _ sizeTk (by rfl) (by simp [Value.oneCell']) ?_; intro w8 T8 s8 g8); (have J8 := J7.but g8 (by omega)); (have B8 := B7.trans (g8.below B7.size (by omega)))))
    refine bodyPost_ret (res_ctx Tryd.results11 (by rfl) (by rfl) J8 T8 Tryd.underlying27 rfl Tryd.underlying31 rfl sizeNtp (by rfl) sizeTk (by rfl) (by rfl)) rfl ?_
    exact ⟨rfl, B8⟩
set_option maxRecDepth 100000 in
set_option maxHeartbeats 8000000 in
theorem gopen_bad (bj : Nat) (s kk g : Int) (A : Option Addr) (n c : Nat) (b : List Int) (w : World) (hJ : Blk w bj 84 (jarL s kk g)) (hs : U64 s) (hg : Gn g) (hkk : 1 ≤ kk ∧ kk ≤ 8) (hR : Rnd w) (hn : b.length = n) (h : Bs w 0 w.heap.size A b) (hnc : n ≤ c) (hc : c ≤ 9223372036854775807) (hm : n ≤ 1000000) (hE : spE b = 0) (l v m st po pr rd rp id ref org rec xmt : Int) (hV : dcV b = ntp l v m st po pr rd rp id ref org rec xmt) (hT : (spC b).length = 52) (hO1 : opE s kk g (spC b) ≠ 0) :
    Calls Tryd.prog 11 #[.pointer (some ⟨bj, 0, none⟩), .slice A n c] w fun e w' => e = .returned (.tuple #[ntp0, .agg (tktL none 0 0 0 0 0 0).toArray, .int .i64 (opE s kk g (spC b))]) ∧ Below w.heap.size w w' := by
  have hS := fun W hB => split_ok A n c b W hn hB hnc hc hm hE l v m st po pr rd rp id ref org rec xmt hV
  obtain ⟨hI16, hA12⟩ : (spI b).length = 16 ∧ (spA b).length = 12 := by
    rcases spE_cases b with ⟨h1, h2⟩ | ⟨h1, h2, h3⟩ | ⟨h1, h2, h3, h4⟩ | ⟨h1, h2, h3, h4, h5⟩
    · exact absurd (h2.symm.trans hE) h1
    · exact absurd (h3.symm.trans hE) h2
    · rw [h4] at hE; cases hE
    · exact ⟨h4, h3⟩
  have hDl := spB_len hn
  have hDb : Bs w 0 w.heap.size A (spB b) := h.take _
  have hsz : ∀ q, (dtL (spL b) q).length ≤ 256 := fun q => dt_small (by unfold dcR; split; exact h.byt.drop _; exact Byt.nil)
  have hP := fun k0 k1 A1 n1 c1 A2 n2 c2 A4 c4 W hk0 hk1 h3 h4 hc4 hcc4 hR => proved_any l v m st po pr rd rp id ref org rec xmt A1 n1 c1 A2 n2 c2 A (n - 12) c A4 c4 k0 k1 (spB b) (spA b) W hDl h3 (by omega) (by omega) hc hA12 h4 hc4 hcc4 hk0 hk1 hR
  have hFi := fun W A c N hN hX hc hcc => find_u A c (spL b) N 516 W hN hX hc hcc (fun q _ => Nat.le_trans (hsz q) (by omega))
  have hFB := fd_len (spL b) 516
  have hO := fun W A N c hN hB hc hcc hJ hR => open_any bj s kk g A N c (spC b) W hN hB hc hcc hs hg hkk hJ hR
  rw [opV_err rfl hO1] at hO
  have hFB' : fdB (spL b) 516 = false → (spC b).length = 0 := hFB
  clear hFB
  have hFB := hFB'
  clear hFB'
  generalize hOE : opE s kk g (spC b) = OE at hO hO1 ⊢
  have hOE' : (OE != 0) = true := by simpa using hO1
  generalize hCC : spC b = CC at *
  obtain ⟨N9, hN9⟩ : ∃ N, CC.length = N := ⟨_, rfl⟩
  have hFi' : ∀ (W : World) (A : Option Addr) (c N : Nat), (spL b).length = N → Xs W W.heap.size A (spL b) → N ≤ c → c ≤ 9223372036854775807 → Calls Tryd.prog 31 #[.slice A N c, .int .i64 516] W fun e w' => ∃ A' c', e = .returned (.tuple #[.slice A' N9 c', .bool (fdB (spL b) 516)]) ∧ Ow w' W.heap.size A' c' CC ∧ Below W.heap.size W w' := fun W A c N h1 h2 h3 h4 => (hFi W A c N h1 h2 h3 h4).mono fun e w' ⟨A1, c1, n1, e1, e2, e3⟩ => by
    have hx : fdD (spL b) 516 = CC := hCC
    rw [hx] at e2 e3
    obtain rfl : N9 = n1 := hN9.symm.trans e2
    exact ⟨A1, c1, e1, e3⟩
  clear hFi
  have hFi := hFi'
  clear hFi'
  generalize fdB (spL b) 516 = IB at hFi hFB
  generalize spL b = L at hS hFi hsz
  obtain rfl : IB = true := by
    cases hb : IB with
    | true => rfl
    | false => have := hFB hb; omega
  obtain rfl : N9 = 52 := hN9.symm.trans hT
  clear hP hFB hE hV hOE hO1 hT hCC
  go_enter Tryd.func11, Tryd.ntmps11
  go_wp2_with (first
    | (refine wpl_alloc (by rfl) 27 (by rfl) (.agg (zN).toArray) (zN) zeroNtp rfl ?_; intro w1 J1 s1 b1)
    | ((refine wpl_alloc (by rfl) 31 (by rfl) (.agg (tktL none 0 0 0 0 0 0).toArray) (tktL none 0 0 0 0 0 0) zeroTk rfl ?_; intro w2 T2 s2 b2); (have J2 := J1.below b2 (by omega)); (have B2 := b1.trans (b2.mono (by omega))))
    | (go_at_call 30; ((with_reducible refine (hS _ ((h.below B2 (Nat.le_refl _)).wide (Nat.le_refl _) B2.size)).mono ?_); rintro e w3 ⟨P1, p1, q1, P2, q2, P4, q4, rfl, hL1, X3, OI3, OA3, b3⟩; (have J3 := J2.below b3 J2.lt); (have T3 := T2.below b3 T2.lt); (have B3 := B2.trans (b3.mono B2.size)); (have z3 := b3.size)))
    | ((refine wpl_alloc (by rfl) 75 (by rfl) (.agg (ptZ).toArray) (ptZ) zeroPt rfl ?_; intro w4 P4' s4 b4); (have J4 := J3.below b4 J3.lt); (have T4 := T3.below b4 T3.lt); (have B4 := B3.trans (b4.mono B3.size)))
    | ((refine wpl_store (by rfl) 75 _ _ (by rfl) w3.heap.size (by rfl) _ (by rfl) _ rfl 75 _ P4' (by rfl) _ sizePt (by rfl) (by simp [Value.oneCell']) ?_; intro w5 P5 s5 g5); (have J5 := J4.but g5 (Nat.ne_of_lt J3.lt)); (have T5 := T4.but g5 (Nat.ne_of_lt T3.lt)); (have B5 := B4.trans (g5.below B4.size B3.size)); (have B35 : Below w3.heap.size w3 w5 := b4.trans (But.below (g := w3.heap.size) g5 (Nat.le_of_lt s4) (Nat.le_refl _))); (have X5 := X3.below B35 (Nat.le_refl _)); (have OI5 := OI3.below B35 (Nat.le_refl _)); (have OA5 := OA3.below B35 (Nat.le_refl _)); (have hp := X5.cap); rw [hL1] at hp)
    | (refine wpl_loadf (by rfl) 42 _ (by rfl) w3.heap.size 13 (by rfl) _ _ P5 _ rfl _ Tryd.underlying42 rfl ?_)
    | (go_at_call 31; ((with_reducible refine (hFi _ _ _ _ hL1 X5.xs hp.1 hp.2.1).mono ?_); rintro e w6 ⟨A6, c6, rfl, O6, b6⟩; (have J6 := J5.below b6 J5.lt); (have T6 := T5.below b6 T5.lt); (have P6 := P5.below b6 P5.lt); (have B6 := B5.trans (b6.mono B5.size)); (have OI6 := OI5.below b6 (Nat.le_refl _)); (have OA6 := OA5.below b6 (Nat.le_refl _))))
    | (go_at_call 32; ((with_reducible refine (hO _ _ _ _ hN9 (O6.bs.wide (Nat.zero_le _) (Nat.le_refl _)) (by have := O6.cap_le; omega) O6.cap_max (hJ.below B6 hJ.lt) (hR.below B6 hR.lt)).mono ?_); rintro e w7 ⟨rfl, b7⟩; (have J7 := J6.below b7 J6.lt); (have T7 := T6.below b7 T6.lt); (have P7 := P6.below b7 P6.lt); (have B7 := B6.trans (b7.mono B6.size)); (have OI7 := OI6.below b7 (Nat.le_refl _)); (have OA7 := OA6.below b7 (Nat.le_refl _))))
    | ((refine wpl_alloc (by rfl) 29 (by rfl) (.agg (keyL 0 0).toArray) (keyL 0 0) zeroKey rfl ?_; intro w9 U9 s9 b9); (have J9 := J8.below b9 J8.lt); (have T9 := T8.below b9 T8.lt); (have P9 := P8.below b9 P8.lt); (have U8' := U8.below b9 U8.lt); (have B9 := B8.trans (b9.mono B8.size)))
    | ((refine wpl_alloc (by rfl) 29 (by rfl) (.agg (keyL 0 0).toArray) (keyL 0 0) zeroKey rfl ?_; intro w8 U8 s8 b8); (have J8 := J7.below b8 J7.lt); (have T8 := T7.below b8 T7.lt); (have P8 := P7.below b8 P7.lt); (have B8 := B7.trans (b8.mono B7.size)))
    | (refine wpl_store (by rfl) 29 _ _ (by rfl) w7.heap.size (by rfl) _ (by rfl) (keyL 0 0) rfl 29 _ U8' (by rfl) _ sizeKey (by rfl) (by simp [Value.oneCell']) ?_; intro w10 U10 s10 g10; (have J10 := J9.but g10 (Nat.ne_of_lt J7.lt)); (have T10 := T9.but g10 (Nat.ne_of_lt T7.lt)); (have P10 := P9.but g10 (Nat.ne_of_lt P7.lt)); (have V10 := U9.but g10 (Nat.ne_of_gt U8.lt)); (have B10 := B9.trans (g10.below B9.size B7.size)))
    | (refine wpl_store (by rfl) 29 _ _ (by rfl) w8.heap.size (by rfl) _ (by rfl) (keyL 0 0) rfl 29 _ V10 (by rfl) _ sizeKey (by rfl) (by simp [Value.oneCell']) ?_; intro w11 V11 s11 g11; (have J11 := J10.but g11 (Nat.ne_of_lt J8.lt)); (have T11 := T10.but g11 (Nat.ne_of_lt T8.lt)); (have P11 := P10.but g11 (Nat.ne_of_lt P8.lt)); (have U11 := U10.but g11 (Nat.ne_of_lt U8.lt)); (have B11 := B10.trans (g11.below B10.size B8.size)); (have B711 : Below w7.heap.size w7 w11 := ((b8.trans (b9.mono b8.size)).trans (But.below (g := w7.heap.size) g10 (Nat.le_trans b8.size b9.size) (Nat.le_refl _))).trans (But.below (g := w8.heap.size) g11 (Nat.le_trans (Nat.le_trans b8.size b9.size) s10) b8.size)); (have OA11 := OA7.below B711 (Nat.le_refl _)); (have OI11 := OI7.below B711 (Nat.le_refl _)))
    | ((refine wpl_store (by rfl) 27 _ _ (by rfl) w.heap.size (by rfl) _ (by rfl) _ rfl 27 _ J11 (by rfl) _ sizeNtp (by rfl) (by simp [Value.oneCell']) ?_; intro w12 J12 s12 g12); (have T12 := T11.but g12 (by omega)); (have B12 := B11.trans (g12.below B11.size (Nat.le_refl _))))
    | ((refine wpl_store (by rfl) 31 _ _ (by rfl) w1.heap.size (by rfl) _ (by rfl) _ rfl 31 _ T12 (by rfl) _ sizeTk (by rfl) (by simp [Value.oneCell']) ?_; intro w13 T13 s13 g13); (have J13 := J12.but g13 (by omega)); (have B13 := B12.trans (g13.below B12.size (by omega)))))
  refine bodyPost_ret (res_ctx Tryd.results11 (by rfl) (by rfl) J13 T13 Tryd.underlying27 rfl Tryd.underlying31 rfl sizeNtp (by rfl) sizeTk (by rfl) (by rfl)) rfl ?_
  exact ⟨rfl, B13⟩
set_option maxRecDepth 100000 in
set_option maxHeartbeats 8000000 in
theorem gopen_tag (bj : Nat) (s kk g : Int) (A : Option Addr) (n c : Nat) (b : List Int) (w : World) (hJ : Blk w bj 84 (jarL s kk g)) (hs : U64 s) (hg : Gn g) (hkk : 1 ≤ kk ∧ kk ≤ 8) (hR : Rnd w) (hn : b.length = n) (h : Bs w 0 w.heap.size A b) (hnc : n ≤ c) (hc : c ≤ 9223372036854775807) (hm : n ≤ 1000000) (hE : spE b = 0) (l v m st po pr rd rp id ref org rec xmt : Int) (hV : dcV b = ntp l v m st po pr rd rp id ref org rec xmt) (hT : (spC b).length = 52) (hO1 : opE s kk g (spC b) = 0) (hPV : prvB (opK s kk g (spC b) 0) (opK s kk g (spC b) 1) (spB b) (spA b) = false) :
    Calls Tryd.prog 11 #[.pointer (some ⟨bj, 0, none⟩), .slice A n c] w fun e w' => e = .returned (.tuple #[ntp0, .agg (tktL none 0 0 0 0 0 0).toArray, .int .i64 16]) ∧ Below w.heap.size w w' := by
  have hS := fun W hB => split_ok A n c b W hn hB hnc hc hm hE l v m st po pr rd rp id ref org rec xmt hV
  obtain ⟨hI16, hA12⟩ : (spI b).length = 16 ∧ (spA b).length = 12 := by
    rcases spE_cases b with ⟨h1, h2⟩ | ⟨h1, h2, h3⟩ | ⟨h1, h2, h3, h4⟩ | ⟨h1, h2, h3, h4, h5⟩
    · exact absurd (h2.symm.trans hE) h1
    · exact absurd (h3.symm.trans hE) h2
    · rw [h4] at hE; cases hE
    · exact ⟨h4, h3⟩
  have hDl := spB_len hn
  have hDb : Bs w 0 w.heap.size A (spB b) := h.take _
  have hsz : ∀ q, (dtL (spL b) q).length ≤ 256 := fun q => dt_small (by unfold dcR; split; exact h.byt.drop _; exact Byt.nil)
  have hP := fun k0 k1 A1 n1 c1 A2 n2 c2 A4 c4 W hk0 hk1 h3 h4 hc4 hcc4 hR => proved_any l v m st po pr rd rp id ref org rec xmt A1 n1 c1 A2 n2 c2 A (n - 12) c A4 c4 k0 k1 (spB b) (spA b) W hDl h3 (by omega) (by omega) hc hA12 h4 hc4 hcc4 hk0 hk1 hR
  have hFi := fun W A c N hN hX hc hcc => find_u A c (spL b) N 516 W hN hX hc hcc (fun q _ => Nat.le_trans (hsz q) (by omega))
  have hFB := fd_len (spL b) 516
  have hO := fun W A N c hN hB hc hcc hJ hR => open_any bj s kk g A N c (spC b) W hN hB hc hcc hs hg hkk hJ hR
  rw [opV_val] at hO
  have u0 := opK_u64 s kk g (spC_byt h.byt) 0
  have u1 := opK_u64 s kk g (spC_byt h.byt) 1
  have hFB' : fdB (spL b) 516 = false → (spC b).length = 0 := hFB
  clear hFB
  have hFB := hFB'
  clear hFB'
  rw [hO1] at hO
  generalize hk0 : opK s kk g (spC b) 0 = a0 at *
  generalize hk1 : opK s kk g (spC b) 1 = a1 at *
  generalize hk2 : opK s kk g (spC b) 2 = a2 at *
  generalize hk3 : opK s kk g (spC b) 3 = a3 at *
  have hP' := fun A1 n1 c1 A2 n2 c2 A4 c4 W h3 h4 hc4 hcc4 hR => hP a0 a1 A1 n1 c1 A2 n2 c2 A4 c4 W u0 u1 h3 h4 hc4 hcc4 hR
  clear hP
  generalize hCC : spC b = CC at *
  obtain ⟨N9, hN9⟩ : ∃ N, CC.length = N := ⟨_, rfl⟩
  have hFi' : ∀ (W : World) (A : Option Addr) (c N : Nat), (spL b).length = N → Xs W W.heap.size A (spL b) → N ≤ c → c ≤ 9223372036854775807 → Calls Tryd.prog 31 #[.slice A N c, .int .i64 516] W fun e w' => ∃ A' c', e = .returned (.tuple #[.slice A' N9 c', .bool (fdB (spL b) 516)]) ∧ Ow w' W.heap.size A' c' CC ∧ Below W.heap.size W w' := fun W A c N h1 h2 h3 h4 => (hFi W A c N h1 h2 h3 h4).mono fun e w' ⟨A1, c1, n1, e1, e2, e3⟩ => by
    have hx : fdD (spL b) 516 = CC := hCC
    rw [hx] at e2 e3
    obtain rfl : N9 = n1 := hN9.symm.trans e2
    exact ⟨A1, c1, e1, e3⟩
  clear hFi
  have hFi := hFi'
  clear hFi'
  generalize fdB (spL b) 516 = IB at hFi hFB
  generalize spL b = L at hS hFi hsz
  obtain rfl : IB = true := by
    cases hb : IB with
    | true => rfl
    | false => have := hFB hb; omega
  obtain rfl : N9 = 52 := hN9.symm.trans hT
  clear hFB hE hV hO1 hT hCC hk0 hk1 hk2 hk3
  rw [hPV] at hP'
  clear hPV
  have HA := Lib.hid hA12
  clear hA12 hI16
  go_enter Tryd.func11, Tryd.ntmps11
  go_wp2_with (first
    | (refine wpl_alloc (by rfl) 27 (by rfl) (.agg (zN).toArray) (zN) zeroNtp rfl ?_; intro w1 J1 s1 b1)
    | ((refine wpl_alloc (by rfl) 31 (by rfl) (.agg (tktL none 0 0 0 0 0 0).toArray) (tktL none 0 0 0 0 0 0) zeroTk rfl ?_; intro w2 T2 s2 b2); (have J2 := J1.below b2 (by omega)); (have B2 := b1.trans (b2.mono (by omega))))
    | (go_at_call 30; ((with_reducible refine (hS _ ((h.below B2 (Nat.le_refl _)).wide (Nat.le_refl _) B2.size)).mono ?_); rintro e w3 ⟨P1, p1, q1, P2, q2, P4, q4, rfl, hL1, X3, OI3, OA3, b3⟩; (have J3 := J2.below b3 J2.lt); (have T3 := T2.below b3 T2.lt); (have B3 := B2.trans (b3.mono B2.size)); (have z3 := b3.size)))
    | ((refine wpl_alloc (by rfl) 75 (by rfl) (.agg (ptZ).toArray) (ptZ) zeroPt rfl ?_; intro w4 P4' s4 b4); (have J4 := J3.below b4 J3.lt); (have T4 := T3.below b4 T3.lt); (have B4 := B3.trans (b4.mono B3.size)))
    | ((refine wpl_store (by rfl) 75 _ _ (by rfl) w3.heap.size (by rfl) _ (by rfl) _ rfl 75 _ P4' (by rfl) _ sizePt (by rfl) (by simp [Value.oneCell']) ?_; intro w5 P5 s5 g5); (have J5 := J4.but g5 (Nat.ne_of_lt J3.lt)); (have T5 := T4.but g5 (Nat.ne_of_lt T3.lt)); (have B5 := B4.trans (g5.below B4.size B3.size)); (have B35 : Below w3.heap.size w3 w5 := b4.trans (But.below (g := w3.heap.size) g5 (Nat.le_of_lt s4) (Nat.le_refl _))); (have X5 := X3.below B35 (Nat.le_refl _)); (have OI5 := OI3.below B35 (Nat.le_refl _)); (have OA5 := OA3.below B35 (Nat.le_refl _)); (have hp := X5.cap); rw [hL1] at hp)
    | (refine wpl_loadf (by rfl) 42 _ (by rfl) w3.heap.size 13 (by rfl) _ _ P5 _ rfl _ Tryd.underlying42 rfl ?_)
    | (go_at_call 31; ((with_reducible refine (hFi _ _ _ _ hL1 X5.xs hp.1 hp.2.1).mono ?_); rintro e w6 ⟨A6, c6, rfl, O6, b6⟩; (have J6 := J5.below b6 J5.lt); (have T6 := T5.below b6 T5.lt); (have P6 := P5.below b6 P5.lt); (have B6 := B5.trans (b6.mono B5.size)); (have OI6 := OI5.below b6 (Nat.le_refl _)); (have OA6 := OA5.below b6 (Nat.le_refl _))))
    | (go_at_call 32; ((with_reducible refine (hO _ _ _ _ hN9 (O6.bs.wide (Nat.zero_le _) (Nat.le_refl _)) (by have := O6.cap_le; omega) O6.cap_max (hJ.below B6 hJ.lt) (hR.below B6 hR.lt)).mono ?_); rintro e w7 ⟨rfl, b7⟩; (have J7 := J6.below b7 J6.lt); (have T7 := T6.below b7 T6.lt); (have P7 := P6.below b7 P6.lt); (have B7 := B6.trans (b7.mono B6.size)); (have OI7 := OI6.below b7 (Nat.le_refl _)); (have OA7 := OA6.below b7 (Nat.le_refl _))))
    | ((refine wpl_alloc (by rfl) 29 (by rfl) (.agg (keyL 0 0).toArray) (keyL 0 0) zeroKey rfl ?_; intro w9 U9 s9 b9); (have J9 := J8.below b9 J8.lt); (have T9 := T8.below b9 T8.lt); (have P9 := P8.below b9 P8.lt); (have U8' := U8.below b9 U8.lt); (have B9 := B8.trans (b9.mono B8.size)))
    | ((refine wpl_alloc (by rfl) 29 (by rfl) (.agg (keyL 0 0).toArray) (keyL 0 0) zeroKey rfl ?_; intro w8 U8 s8 b8); (have J8 := J7.below b8 J7.lt); (have T8 := T7.below b8 T7.lt); (have P8 := P7.below b8 P7.lt); (have B8 := B7.trans (b8.mono B7.size)))
    | (refine wpl_store (by rfl) 29 _ _ (by rfl) w7.heap.size (by rfl) _ (by rfl) (keyL a0 a1) rfl 29 _ U8' (by rfl) _ sizeKey (by rfl) (by simp [Value.oneCell']) ?_; intro w10 U10 s10 g10; (have J10 := J9.but g10 (Nat.ne_of_lt J7.lt)); (have T10 := T9.but g10 (Nat.ne_of_lt T7.lt)); (have P10 := P9.but g10 (Nat.ne_of_lt P7.lt)); (have V10 := U9.but g10 (Nat.ne_of_gt U8.lt)); (have B10 := B9.trans (g10.below B9.size B7.size)))
    | (refine wpl_store (by rfl) 29 _ _ (by rfl) w8.heap.size (by rfl) _ (by rfl) (keyL a2 a3) rfl 29 _ V10 (by rfl) _ sizeKey (by rfl) (by simp [Value.oneCell']) ?_; intro w11 V11 s11 g11; (have J11 := J10.but g11 (Nat.ne_of_lt J8.lt)); (have T11 := T10.but g11 (Nat.ne_of_lt T8.lt)); (have P11 := P10.but g11 (Nat.ne_of_lt P8.lt)); (have U11 := U10.but g11 (Nat.ne_of_lt U8.lt)); (have B11 := B10.trans (g11.below B10.size B8.size)); (have B711 : Below w7.heap.size w7 w11 := ((b8.trans (b9.mono b8.size)).trans (But.below (g := w7.heap.size) g10 (Nat.le_trans b8.size b9.size) (Nat.le_refl _))).trans (But.below (g := w8.heap.size) g11 (Nat.le_trans (Nat.le_trans b8.size b9.size) s10) b8.size)); (have OA11 := OA7.below B711 (Nat.le_refl _)); (have OI11 := OI7.below B711 (Nat.le_refl _)))
    | (refine wpl_load (by rfl) 75 _ (by rfl) w3.heap.size (by rfl) 75 _ P11 _ Tryd.underlying75 rfl _ sizePt (by rfl) ?_)
    | (refine wpl_load (by rfl) 29 _ (by rfl) w7.heap.size (by rfl) 29 _ U11 _ Tryd.underlying29 rfl _ sizeKey (by rfl) ?_)
    | (go_at_call 33; ((with_reducible refine (hP' _ _ _ _ _ _ _ _ _ ((hDb.below B11 (Nat.le_refl _)).wide (Nat.le_refl _) B11.size) (OA11.bs.wide (Nat.zero_le _) (Nat.le_refl _)) (by have := OA11.cap_le; rw [HA.out] at this; exact this) OA11.cap_max (hR.below B11 hR.lt)).mono ?_); rintro e w12 ⟨rfl, b12⟩; (have J12 := J11.below b12 J11.lt); (have T12 := T11.below b12 T11.lt); (have B12 := B11.trans (b12.mono B11.size))))
    | ((refine wpl_store (by rfl) 27 _ _ (by rfl) w.heap.size (by rfl) _ (by rfl) _ rfl 27 _ J12 (by rfl) _ sizeNtp (by rfl) (by simp [Value.oneCell']) ?_; intro w13 J13 s13 g13); (have T13 := T12.but g13 (by omega)); (have B13 := B12.trans (g13.below B12.size (Nat.le_refl _))))
    | ((refine wpl_store (by rfl) 31 _ _ (by rfl) w1.heap.size (by rfl) _ (by rfl) _ rfl 31 _ T13 (by rfl) _ sizeTk (by rfl) (by simp [Value.oneCell']) ?_; intro w14 T14 s14 g14); (have J14 := J13.but g14 (by omega)); (have B14 := B13.trans (g14.below B13.size (by omega)))))
  refine bodyPost_ret (res_ctx Tryd.results11 (by rfl) (by rfl) J14 T14 Tryd.underlying27 rfl Tryd.underlying31 rfl sizeNtp (by rfl) sizeTk (by rfl) (by rfl)) rfl ?_
  exact ⟨rfl, B14⟩
set_option maxRecDepth 100000 in
set_option maxHeartbeats 16000000 in
theorem gopen_ok (bj : Nat) (s kk g : Int) (A : Option Addr) (n c : Nat) (b : List Int) (w : World) (hJ : Blk w bj 84 (jarL s kk g)) (hs : U64 s) (hg : Gn g) (hkk : 1 ≤ kk ∧ kk ≤ 8) (hR : Rnd w) (hn : b.length = n) (h : Bs w 0 w.heap.size A b) (hnc : n ≤ c) (hc : c ≤ 9223372036854775807) (hm : n ≤ 1000000) (hE : spE b = 0) (l v m st po pr rd rp id ref org rec xmt : Int) (hV : dcV b = ntp l v m st po pr rd rp id ref org rec xmt) (hT : (spC b).length = 52) (hO1 : opE s kk g (spC b) = 0) (hPV : prvB (opK s kk g (spC b) 0) (opK s kk g (spC b) 1) (spB b) (spA b) = true) :
    Calls Tryd.prog 11 #[.pointer (some ⟨bj, 0, none⟩), .slice A n c] w fun e w' => ∃ r c', e = .returned (.tuple #[ntp l v m st po pr rd rp id ref org rec xmt, .agg (tktL (some ⟨r, 0, none⟩) 16 c' (opK s kk g (spC b) 0) (opK s kk g (spC b) 1) (opK s kk g (spC b) 2) (opK s kk g (spC b) 3)).toArray, .int .i64 0]) ∧ Ow w' w.heap.size (some ⟨r, 0, none⟩) c' (spI b) ∧ Below w.heap.size w w' := by
  have hS := fun W hB => split_ok A n c b W hn hB hnc hc hm hE l v m st po pr rd rp id ref org rec xmt hV
  obtain ⟨hI16, hA12⟩ : (spI b).length = 16 ∧ (spA b).length = 12 := by
    rcases spE_cases b with ⟨h1, h2⟩ | ⟨h1, h2, h3⟩ | ⟨h1, h2, h3, h4⟩ | ⟨h1, h2, h3, h4, h5⟩
    · exact absurd (h2.symm.trans hE) h1
    · exact absurd (h3.symm.trans hE) h2
    · rw [h4] at hE; cases hE
    · exact ⟨h4, h3⟩
  have hDl := spB_len hn
  have hDb : Bs w 0 w.heap.size A (spB b) := h.take _
  have hsz : ∀ q, (dtL (spL b) q).length ≤ 256 := fun q => dt_small (by unfold dcR; split; exact h.byt.drop _; exact Byt.nil)
  have hP := fun k0 k1 A1 n1 c1 A2 n2 c2 A4 c4 W hk0 hk1 h3 h4 hc4 hcc4 hR => proved_any l v m st po pr rd rp id ref org rec xmt A1 n1 c1 A2 n2 c2 A (n - 12) c A4 c4 k0 k1 (spB b) (spA b) W hDl h3 (by omega) (by omega) hc hA12 h4 hc4 hcc4 hk0 hk1 hR
  have hFi := fun W A c N hN hX hc hcc => find_u A c (spL b) N 516 W hN hX hc hcc (fun q _ => Nat.le_trans (hsz q) (by omega))
  have hFB := fd_len (spL b) 516
  have hO := fun W A N c hN hB hc hcc hJ hR => open_any bj s kk g A N c (spC b) W hN hB hc hcc hs hg hkk hJ hR
  rw [opV_val] at hO
  have u0 := opK_u64 s kk g (spC_byt h.byt) 0
  have u1 := opK_u64 s kk g (spC_byt h.byt) 1
  have hFB' : fdB (spL b) 516 = false → (spC b).length = 0 := hFB
  clear hFB
  have hFB := hFB'
  clear hFB'
  rw [hO1] at hO
  generalize hk0 : opK s kk g (spC b) 0 = a0 at *
  generalize hk1 : opK s kk g (spC b) 1 = a1 at *
  generalize hk2 : opK s kk g (spC b) 2 = a2 at *
  generalize hk3 : opK s kk g (spC b) 3 = a3 at *
  have hP' := fun A1 n1 c1 A2 n2 c2 A4 c4 W h3 h4 hc4 hcc4 hR => hP a0 a1 A1 n1 c1 A2 n2 c2 A4 c4 W u0 u1 h3 h4 hc4 hcc4 hR
  clear hP
  generalize hCC : spC b = CC at *
  obtain ⟨N9, hN9⟩ : ∃ N, CC.length = N := ⟨_, rfl⟩
  have hFi' : ∀ (W : World) (A : Option Addr) (c N : Nat), (spL b).length = N → Xs W W.heap.size A (spL b) → N ≤ c → c ≤ 9223372036854775807 → Calls Tryd.prog 31 #[.slice A N c, .int .i64 516] W fun e w' => ∃ A' c', e = .returned (.tuple #[.slice A' N9 c', .bool (fdB (spL b) 516)]) ∧ Ow w' W.heap.size A' c' CC ∧ Below W.heap.size W w' := fun W A c N h1 h2 h3 h4 => (hFi W A c N h1 h2 h3 h4).mono fun e w' ⟨A1, c1, n1, e1, e2, e3⟩ => by
    have hx : fdD (spL b) 516 = CC := hCC
    rw [hx] at e2 e3
    obtain rfl : N9 = n1 := hN9.symm.trans e2
    exact ⟨A1, c1, e1, e3⟩
  clear hFi
  have hFi := hFi'
  clear hFi'
  generalize fdB (spL b) 516 = IB at hFi hFB
  generalize spL b = L at hS hFi hsz
  obtain rfl : IB = true := by
    cases hb : IB with
    | true => rfl
    | false => have := hFB hb; omega
  obtain rfl : N9 = 52 := hN9.symm.trans hT
  clear hFB hE hV hO1 hT hCC hk0 hk1 hk2 hk3
  rw [hPV] at hP'
  clear hPV
  have HA := Lib.hid hA12
  have HI := Lib.hid hI16
  clear hA12 hI16
  go_enter Tryd.func11, Tryd.ntmps11
  go_wp2_with (first
    | (refine wpl_alloc (by rfl) 27 (by rfl) (.agg (zN).toArray) (zN) zeroNtp rfl ?_; intro w1 J1 s1 b1)
    | ((refine wpl_alloc (by rfl) 31 (by rfl) (.agg (tktL none 0 0 0 0 0 0).toArray) (tktL none 0 0 0 0 0 0) zeroTk rfl ?_; intro w2 T2 s2 b2); (have J2 := J1.below b2 (by omega)); (have B2 := b1.trans (b2.mono (by omega))))
    | (go_at_call 30; ((with_reducible refine (hS _ ((h.below B2 (Nat.le_refl _)).wide (Nat.le_refl _) B2.size)).mono ?_); rintro e w3 ⟨P1, p1, q1, P2, q2, P4, q4, rfl, hL1, X3, OI3, OA3, b3⟩; (have J3 := J2.below b3 J2.lt); (have T3 := T2.below b3 T2.lt); (have B3 := B2.trans (b3.mono B2.size)); (have z3 := b3.size)))
    | ((refine wpl_alloc (by rfl) 75 (by rfl) (.agg (ptZ).toArray) (ptZ) zeroPt rfl ?_; intro w4 P4' s4 b4); (have J4 := J3.below b4 J3.lt); (have T4 := T3.below b4 T3.lt); (have B4 := B3.trans (b4.mono B3.size)))
    | ((refine wpl_store (by rfl) 75 _ _ (by rfl) w3.heap.size (by rfl) _ (by rfl) _ rfl 75 _ P4' (by rfl) _ sizePt (by rfl) (by simp [Value.oneCell']) ?_; intro w5 P5 s5 g5); (have J5 := J4.but g5 (Nat.ne_of_lt J3.lt)); (have T5 := T4.but g5 (Nat.ne_of_lt T3.lt)); (have B5 := B4.trans (g5.below B4.size B3.size)); (have B35 : Below w3.heap.size w3 w5 := b4.trans (But.below (g := w3.heap.size) g5 (Nat.le_of_lt s4) (Nat.le_refl _))); (have X5 := X3.below B35 (Nat.le_refl _)); (have OI5 := OI3.below B35 (Nat.le_refl _)); (have OA5 := OA3.below B35 (Nat.le_refl _)); (have hp := X5.cap); rw [hL1] at hp)
    | (refine wpl_loadf (by rfl) 42 _ (by rfl) w3.heap.size 13 (by rfl) _ _ P5 _ rfl _ Tryd.underlying42 rfl ?_)
    | (go_at_call 31; ((with_reducible refine (hFi _ _ _ _ hL1 X5.xs hp.1 hp.2.1).mono ?_); rintro e w6 ⟨A6, c6, rfl, O6, b6⟩; (have J6 := J5.below b6 J5.lt); (have T6 := T5.below b6 T5.lt); (have P6 := P5.below b6 P5.lt); (have B6 := B5.trans (b6.mono B5.size)); (have OI6 := OI5.below b6 (Nat.le_refl _)); (have OA6 := OA5.below b6 (Nat.le_refl _))))
    | (go_at_call 32; ((with_reducible refine (hO _ _ _ _ hN9 (O6.bs.wide (Nat.zero_le _) (Nat.le_refl _)) (by have := O6.cap_le; omega) O6.cap_max (hJ.below B6 hJ.lt) (hR.below B6 hR.lt)).mono ?_); rintro e w7 ⟨rfl, b7⟩; (have J7 := J6.below b7 J6.lt); (have T7 := T6.below b7 T6.lt); (have P7 := P6.below b7 P6.lt); (have B7 := B6.trans (b7.mono B6.size)); (have OI7 := OI6.below b7 (Nat.le_refl _)); (have OA7 := OA6.below b7 (Nat.le_refl _))))
    | ((refine wpl_alloc (by rfl) 29 (by rfl) (.agg (keyL 0 0).toArray) (keyL 0 0) zeroKey rfl ?_; intro w9 U9 s9 b9); (have J9 := J8.below b9 J8.lt); (have T9 := T8.below b9 T8.lt); (have P9 := P8.below b9 P8.lt); (have U8' := U8.below b9 U8.lt); (have B9 := B8.trans (b9.mono B8.size)))
    | ((refine wpl_alloc (by rfl) 29 (by rfl) (.agg (keyL 0 0).toArray) (keyL 0 0) zeroKey rfl ?_; intro w8 U8 s8 b8); (have J8 := J7.below b8 J7.lt); (have T8 := T7.below b8 T7.lt); (have P8 := P7.below b8 P7.lt); (have B8 := B7.trans (b8.mono B7.size)))
    | (refine wpl_store (by rfl) 29 _ _ (by rfl) w7.heap.size (by rfl) _ (by rfl) (keyL a0 a1) rfl 29 _ U8' (by rfl) _ sizeKey (by rfl) (by simp [Value.oneCell']) ?_; intro w10 U10 s10 g10; (have J10 := J9.but g10 (Nat.ne_of_lt J7.lt)); (have T10 := T9.but g10 (Nat.ne_of_lt T7.lt)); (have P10 := P9.but g10 (Nat.ne_of_lt P7.lt)); (have V10 := U9.but g10 (Nat.ne_of_gt U8.lt)); (have B10 := B9.trans (g10.below B9.size B7.size)))
    | (refine wpl_store (by rfl) 29 _ _ (by rfl) w8.heap.size (by rfl) _ (by rfl) (keyL a2 a3) rfl 29 _ V10 (by rfl) _ sizeKey (by rfl) (by simp [Value.oneCell']) ?_; intro w11 V11 s11 g11; (have J11 := J10.but g11 (Nat.ne_of_lt J8.lt)); (have T11 := T10.but g11 (Nat.ne_of_lt T8.lt)); (have P11 := P10.but g11 (Nat.ne_of_lt P8.lt)); (have U11 := U10.but g11 (Nat.ne_of_lt U8.lt)); (have B11 := B10.trans (g11.below B10.size B8.size)); (have B711 : Below w7.heap.size w7 w11 := ((b8.trans (b9.mono b8.size)).trans (But.below (g := w7.heap.size) g10 (Nat.le_trans b8.size b9.size) (Nat.le_refl _))).trans (But.below (g := w8.heap.size) g11 (Nat.le_trans (Nat.le_trans b8.size b9.size) s10) b8.size)); (have OA11 := OA7.below B711 (Nat.le_refl _)); (have OI11 := OI7.below B711 (Nat.le_refl _)))
    | (refine wpl_load (by rfl) 75 _ (by rfl) w3.heap.size (by rfl) 75 _ P11 _ Tryd.underlying75 rfl _ sizePt (by rfl) ?_)
    | (refine wpl_load (by rfl) 29 _ (by rfl) w7.heap.size (by rfl) 29 _ U11 _ Tryd.underlying29 rfl _ sizeKey (by rfl) ?_)
    | (go_at_call 33; ((with_reducible refine (hP' _ _ _ _ _ _ _ _ _ ((hDb.below B11 (Nat.le_refl _)).wide (Nat.le_refl _) B11.size) (OA11.bs.wide (Nat.zero_le _) (Nat.le_refl _)) (by have := OA11.cap_le; rw [HA.out] at this; exact this) OA11.cap_max (hR.below B11 hR.lt)).mono ?_); rintro e w12 ⟨rfl, b12⟩; (have J12 := J11.below b12 J11.lt); (have T12 := T11.below b12 T11.lt); (have B12 := B11.trans (b12.mono B11.size)))))
  have P12 := P11.below b12 P11.lt
  have U12 := U11.below b12 U11.lt
  have V12 := V11.below b12 V11.lt
  have OI12 := OI11.below b12 (Nat.le_refl _)
  have hp14 : w12.cell? ⟨w3.heap.size, 14, none⟩ = some (.slice P2 16 q2) := P12.cell rfl
  have z3' : w.heap.size < w1.heap.size := s1
  have z13 : w1.heap.size < w3.heap.size := by omega
  have z37 : w3.heap.size < w7.heap.size := P7.lt
  have z78 : w7.heap.size < w8.heap.size := U8.lt
  have z812 : w8.heap.size < w12.heap.size := V12.lt
  clear J1 J2 J3 J4 J5 J6 J7 J8 J9 J10 J11 T2 T3 T4 T5 T6 T7 T8 T9 T10 T11 P5 P6 P7 P8 P9 P10 P11 U8 U8' U9 U10 U11 V10 V11 OI3 OI5 OI6 OI7 OI11 OA3 OA5 OA6 OA7 OA11 X3 X5 O6 b1 b2 b3 b4 g5 b6 b7 b8 b9 g10 g11 b12 B2 B3 B4 B5 B6 B7 B8 B9 B10 B11 B35 B711 hO hP' hFi hS hsz
  generalize w1.heap.size = n1 at *
  generalize w3.heap.size = n3 at *
  generalize w7.heap.size = n7 at *
  generalize w8.heap.size = n8 at *
  refine wp_region_heldL (fun y => Blk y n3 75 (ptL l v m st po pr rd rp id ref org rec xmt P1 p1 q1 P2 16 q2 A (n - 12) c P4 12 q4) ∧ Blk y n7 29 (keyL a0 a1) ∧ Blk y n8 29 (keyL a2 a3) ∧ y.cell? ⟨n3, 14, none⟩ = some (.slice P2 16 q2)) 11 (by kernel_rfl) rfl ⟨P12.drew, U12.drew, V12.drew, hp14⟩ fun hHeld => ?_
  simp only [List.replicate]
  (refine wpH_t 0 _ (by exact gE rfl) (by kernel_rfl) (by intro _ _ _ h; exact h) (Or.inl ⟨by rfl, (by intro _ h; (try dsimp only at h); go_simp; first | done | with_reducible rfl)⟩) (by assumption) ?_; (try simp only [Act.put, zs0, zs1, zs2]))
  refine wpH_take (i := 1) (v := .agg ([.int .i64 l, .int .i64 v, .int .i64 m, .int .i64 st, .int .i64 po, .int .i64 pr, .int .u32 rd, .int .u32 rp, .int .u32 id, .int .u64 ref, .int .u64 org, .int .u64 rec, .int .u64 xmt]).toArray) (by exact gE rfl) (by kernel_rfl) (by kernel_rfl) (by kernel_rfl) (by intro _ _ _ h; exact h) (yieldsIf_load_mid (by rfl) 27 _ (by rfl) n3 0 (by rfl) [.int .i64 l, .int .i64 v, .int .i64 m, .int .i64 st, .int .i64 po, .int .i64 pr, .int .u32 rd, .int .u32 rp, .int .u32 id, .int .u64 ref, .int .u64 org, .int .u64 rec, .int .u64 xmt] _ (fun w' h => Blk.mid h.1 0 [.int .i64 l, .int .i64 v, .int .i64 m, .int .i64 st, .int .i64 po, .int .i64 pr, .int .u32 rd, .int .u32 rp, .int .u32 id, .int .u64 ref, .int .u64 org, .int .u64 rec, .int .u64 xmt] rfl) Tryd.underlying27 rfl sizeNtp) (by assumption) ?_
  (try simp only [Act.put, zs0, zs1, zs2])
  (refine wpH_t 2 _ (by exact gE rfl) (by kernel_rfl) (by intro _ _ _ h; exact h) (Or.inl ⟨by rfl, (by intro _ h; (try dsimp only at h); go_simp; first | done | with_reducible rfl)⟩) (by assumption) ?_; (try simp only [Act.put, zs0, zs1, zs2]))
  (refine wpH_t 3 _ (by exact gE rfl) (by kernel_rfl) (by intro _ _ _ h; exact h) (Or.inl ⟨by rfl, (by intro _ h; (try dsimp only at h); go_simp; first | done | with_reducible rfl)⟩) (by assumption) ?_; (try simp only [Act.put, zs0, zs1, zs2]))
  refine wpH_t 5 (.agg (keyL a0 a1).toArray) (by exact gE rfl) (by kernel_rfl) (by intro _ _ _ h; exact h) (yieldsIf_load_mid (by rfl) 29 _ (by rfl) n7 0 (by rfl) (keyL a0 a1) _ (fun w' h => h.2.1.range) Tryd.underlying29 rfl sizeKey) (by assumption) ?_
  (try simp only [Act.put, zs0, zs1, zs2])
  refine wpH_t 6 (.agg (keyL a2 a3).toArray) (by exact gE rfl) (by kernel_rfl) (by intro _ _ _ h; exact h) (yieldsIf_load_mid (by rfl) 29 _ (by rfl) n8 0 (by rfl) (keyL a2 a3) _ (fun w' h => h.2.2.1.range) Tryd.underlying29 rfl sizeKey) (by assumption) ?_
  (try simp only [Act.put, zs0, zs1, zs2])
  have hcl := gclone_any P2 16 q2 (spI b) w12.drew HI.out ((OI12.bs.wide (Nat.zero_le _) (Nat.le_refl _)).drew) (by omega)
  have hz12 : w12.drew.heap.size = w12.heap.size := rfl
  rw [hz12] at hcl
  (refine wpH_one (i := 4) (by exact gE rfl) (by kernel_rfl) (by rfl) ?_; (go_simp; (with_reducible refine hcl.mono ?_); rintro e w13 ⟨rfl, O13, b13, s13⟩; refine ⟨⟨P12.drew.below b13 P12.lt, U12.drew.below b13 U12.lt, V12.drew.below b13 V12.lt, (P12.drew.below b13 P12.lt).cell rfl⟩, ?_⟩); (try simp only [Act.put, zs0, zs1, zs2]))
  have P13 := P12.drew.below b13 P12.lt
  have U13 := U12.drew.below b13 U12.lt
  have V13 := V12.drew.below b13 V12.lt
  have J13 := J12.drew.below b13 J12.lt
  have T13 := T12.drew.below b13 T12.lt
  have B13 := B12.drew.trans (b13.mono B12.size)
  have hH13 : Blk w13 n3 75 (ptL l v m st po pr rd rp id ref org rec xmt P1 p1 q1 P2 16 q2 A (n - 12) c P4 12 q4) ∧ Blk w13 n7 29 (keyL a0 a1) ∧ Blk w13 n8 29 (keyL a2 a3) ∧ w13.cell? ⟨n3, 14, none⟩ = some (.slice P2 16 q2) := ⟨P13, U13, V13, P13.cell rfl⟩
  (refine wpH_t 7 _ (by exact gE rfl) (by kernel_rfl) (by intro _ _ _ h; exact h) (Or.inl ⟨by rfl, (by intro _ h; (try dsimp only at h); go_simp; first | done | with_reducible rfl)⟩) (by assumption) ?_; (try simp only [Act.put, zs0, zs1, zs2]))
  have ne3 : n3 ≠ w.heap.size := by omega
  have ne7 : n7 ≠ w.heap.size := by omega
  have ne8 : n8 ≠ w.heap.size := by omega
  have nf3 : n3 ≠ n1 := by omega
  have nf7 : n7 ≠ n1 := by omega
  have nf8 : n8 ≠ n1 := by omega
  (refine wpH_one (i := 8) (by exact gE rfl) (by kernel_rfl) (by rfl) ?_; (refine wp_store1 27 (.tmp 4) (.tmp 61) (by rfl) w.heap.size (by rfl) _ (by rfl) [.int .i64 l, .int .i64 v, .int .i64 m, .int .i64 st, .int .i64 po, .int .i64 pr, .int .u32 rd, .int .u32 rp, .int .u32 id, .int .u64 ref, .int .u64 org, .int .u64 rec, .int .u64 xmt] rfl 27 _ J13 (by rfl) 13 sizeNtp (by rfl) (by simp [Value.oneCell']) ?_; intro w14 J14 s14 g14; refine ⟨⟨P13.but g14 ne3, U13.but g14 ne7, V13.but g14 ne8, (P13.but g14 ne3).cell rfl⟩, ?_⟩); (try simp only [Act.put, zs0, zs1, zs2]))
  have T14 := T13.but g14 (by omega)
  have P14 := P13.but g14 ne3
  have U14 := U13.but g14 ne7
  have V14 := V13.but g14 ne8
  (refine wpH_one (i := 9) (by exact gE rfl) (by kernel_rfl) (by rfl) ?_; (refine wp_store1 31 (.tmp 5) (.tmp 67) (by rfl) n1 (by rfl) _ (by rfl) (tktL (some ⟨w12.heap.size, 0, none⟩) 16 16 a0 a1 a2 a3) rfl 31 _ T14 (by rfl) 5 sizeTk (by rfl) (by simp [Value.oneCell']) ?_; intro w15 T15 s15 g15; refine ⟨⟨P14.but g15 nf3, U14.but g15 nf7, V14.but g15 nf8, (P14.but g15 nf3).cell rfl⟩, ?_⟩); (try simp only [Act.put, zs0, zs1, zs2]))
  have J15 := J14.but g15 (by omega)
  have P15 := P14.but g15 nf3
  have hH15 : Blk w15 n3 75 (ptL l v m st po pr rd rp id ref org rec xmt P1 p1 q1 P2 16 q2 A (n - 12) c P4 12 q4) ∧ Blk w15 n7 29 (keyL a0 a1) ∧ Blk w15 n8 29 (keyL a2 a3) ∧ w15.cell? ⟨n3, 14, none⟩ = some (.slice P2 16 q2) := ⟨P15, U14.but g15 nf7, V14.but g15 nf8, P15.cell rfl⟩
  (refine wpH_t 10 _ (by exact gE rfl) (by kernel_rfl) (by intro _ _ _ h; exact h) (Or.inl ⟨by rfl, (by intro _ h; (try dsimp only at h); go_simp; first | done | with_reducible rfl)⟩) (by assumption) ?_; (try simp only [Act.put, zs0, zs1, zs2]))
  refine wpH_done (by kernel_rfl) ?_ _
  have O15 := (O13.grown g14 (fun q e => by cases e; simp; omega)).grown g15 (fun q e => by cases e; simp; omega)
  have B15 := (B13.trans (g14.below B13.size (Nat.le_refl _))).trans (g15.below (by have := B13.size; omega) (by omega))
  clear hHeld hH13 hH15 P12 P13 P14 P15 U12 U13 U14 V12 V13 V14 O13 J12 J13 J14 T12 T13 T14
  go_wp2_with fail
  refine bodyPost_ret (res_ctx Tryd.results11 (by rfl) (by rfl) J15 T15 Tryd.underlying27 rfl Tryd.underlying31 rfl sizeNtp (by rfl) sizeTk (by rfl) (by rfl)) rfl ?_
  exact ⟨w12.heap.size, 16, rfl, O15.wide B12.size, B15⟩
end Go.Proofs.YtachhbbofemfdaaDoor
namespace Go.Proofs.YtachhbbofemfdaaDoor
open Go.RowKit
set_option linter.unusedSimpArgs false
set_option linter.unusedVariables false
set_option maxRecDepth 100000
theorem rowX_app2 (T : List XT) : ∀ U : List XT, rowX (U ++ T) = rowX U ++ rowX T
  | [] => rfl
  | u :: U => by show _ :: _ :: rowX (U ++ T) = _; rw [rowX_app2 T U]; rfl
theorem rowX_one : ∀ (T : List XT), ∀ u ∈ rowX T, u.oneCell' = true
  | [] => fun u hu => by simp [rowX] at hu
  | t :: T => fun u hu => by
    simp only [rowX, List.mem_cons] at hu
    rcases hu with rfl | rfl | hu
    · rfl
    · rfl
    · exact rowX_one T u hu
theorem rowX_get : ∀ (T : List XT) (j : Nat) (u : Value), (rowX T)[j]? = some u → ∃ (k : Nat) (h : k < T.length), (j = k * 2 ∧ u = .int .i64 (T[k]'h).1.1) ∨ (j = k * 2 + 1 ∧ u = .slice (T[k]'h).2.1 (T[k]'h).1.2.length (T[k]'h).2.2) := by
  intro T j u hu
  have hj : j < T.length * 2 := by rw [← rowX_len]; exact (List.getElem?_eq_some_iff.1 hu).1
  obtain ⟨r0, r1⟩ := rowX_at T (j / 2) (by omega)
  refine ⟨j / 2, by omega, ?_⟩
  by_cases hp : j % 2 = 0
  · left
    refine ⟨by omega, ?_⟩
    rw [show j / 2 * 2 = j by omega] at r0
    rw [r0] at hu
    injection hu with hu
    exact hu.symm
  · right
    refine ⟨by omega, ?_⟩
    rw [show j / 2 * 2 + 1 = j by omega] at r1
    rw [r1] at hu
    injection hu with hu
    exact hu.symm
/-- the bytes of a field lie below lo -/
def XD (w : World) (lo : Nat) (t : XT) : Prop := Bs w 0 lo t.2.1 t.1.2 ∧ t.1.2.length ≤ t.2.2 ∧ t.2.2 ≤ 9223372036854775807 ∧ (t.2.1 = none → t.1.2.length = 0 ∧ t.2.2 = 0)
def XB (w : World) (lo : Nat) (A : Option Addr) (c : Nat) (T : List XT) : Prop := w.ownsRow lo 62 2 (.slice A T.length c) T.length (rowX T) ∧ ∀ t ∈ T, XD w lo t
section
variable {w w' : World} {lo : Nat} {A : Option Addr} {c : Nat} {T : List XT}
theorem XD.below {B : Nat} {t : XT} (h : XD w lo t) (hb : Below B w w') (h1 : lo ≤ B) : XD w' lo t := ⟨h.1.below hb h1, h.2⟩
theorem XB.nil (w : World) (lo : Nat) : XB w lo none 0 [] := ⟨World.ownsRow_nil _ _ _ _, fun t ht => by cases ht⟩
theorem XB.below {B : Nat} (h : XB w lo A c T) (hb : Below B w w') (h1 : w.heap.size ≤ B) (h2 : lo ≤ B) : XB w' lo A c T :=
  ⟨own_kept h.1 fun g hg => hb.block g (by have := (h.1.lt g hg).2; omega), fun t ht => (h.2 t ht).below hb h2⟩
theorem XB.cap (h : XB w lo A c T) : T.length ≤ c ∧ c ≤ 9223372036854775807 ∧ (A = none → T.length = 0 ∧ c = 0) := by
  rcases h.1.2 with ⟨e, h0⟩ | ⟨g, cap, cur, e, _, _, h1, h2, _⟩
  · injection e with e1 e2 e3
    subst e1 e3
    rw [h0]
    exact ⟨by omega, by omega, fun _ => ⟨rfl, rfl⟩⟩
  · injection e with e1 e2 e3
    subst e1 e3
    unfold maxLen at h2
    exact ⟨h1, h2, fun h => by cases h⟩
theorem flds_kd (T : List XT) (k : Nat) (hk : k < T.length) : kdL (flds T) k = (T[k]'hk).1.1 := by unfold kdL flds; rw [List.getD_eq_getElem?_getD, List.getElem?_map, List.getElem?_eq_getElem hk]; rfl
theorem flds_dt (T : List XT) (k : Nat) (hk : k < T.length) : dtL (flds T) k = (T[k]'hk).1.2 := by unfold dtL flds; rw [List.getD_eq_getElem?_getD, List.getElem?_map, List.getElem?_eq_getElem hk]; rfl
theorem XB.xs (h : XB w lo A c T) (hlo : lo ≤ w.heap.size) : Xs w w.heap.size A (flds T) := by
  intro hp
  rw [flds_len] at hp
  obtain ⟨g, cap, e, h4, h5, _, _, hc⟩ := own_form h.1 hp
  have hA : A = some ⟨g, 0, none⟩ := by injection e
  subst hA
  refine ⟨g, 0, rfl, h5, fun k hk => ?_⟩
  rw [flds_len] at hk
  obtain ⟨r0, r1⟩ := rowX_at T k hk
  obtain ⟨d1, d2, d3, d4⟩ := h.2 (T[k]) (List.getElem_mem hk)
  rw [flds_kd T k hk, flds_dt T k hk, Nat.zero_add]
  exact ⟨(T[k]).2.1, (T[k]).2.2, (hc _ (by omega)).trans r0, (hc _ (by omega)).trans r1, d1.wide (Nat.le_refl _) hlo, d2, d3, d4⟩
/-- fields more -/
theorem xb_push {w1 : World} {v' : Value} {U : List XT} (h : XB w lo A c T) (hU : ∀ t ∈ U, XD w lo t) (hr : w1.ownsRow lo 62 2 v' (T.length + U.length) (rowX T ++ rowX U)) (hb : Below lo w w1) : ∃ A' c', v' = .slice A' (T ++ U).length c' ∧ XB w1 lo A' c' (T ++ U) := by
  have key : ∃ A' c', v' = .slice A' (T ++ U).length c' := by
    rw [List.length_append]
    rcases hr.2 with ⟨e, h0⟩ | ⟨g, cap, cur, e, _⟩
    · exact ⟨none, 0, by rw [h0]; exact e⟩
    · exact ⟨_, cap, e⟩
  obtain ⟨A', c', rfl⟩ := key
  refine ⟨A', c', rfl, ?_, fun t ht => ?_⟩
  · rw [List.length_append, rowX_app2] at *
    exact hr
  · rcases List.mem_append.1 ht with ht | ht
    · exact (h.2 t ht).below hb (Nat.le_refl _)
    · exact (hU t ht).below hb (Nat.le_refl _)
end
/-- the cells of a list that came in, as a row -/
theorem xs_rows {w : World} {hi : Nat} {ad : Addr} {L : Flds} (h : Xs w hi (some ad) L) : ∃ U : List XT, flds U = L ∧ (∀ j u, (rowX U)[j]? = some u → w.cell? (ad.add j) = some u) ∧ ∀ t ∈ U, XD w hi t := by
  by_cases hp : 0 < L.length
  · obtain ⟨b, o, e, _, hf⟩ := h hp
    injection e with e
    subst e
    have hf' : ∀ k, k < L.length → ∃ q : Option Addr × Nat, w.cell? ⟨b, o + k * 2, none⟩ = some (.int .i64 (kdL L k)) ∧ w.cell? ⟨b, o + k * 2 + 1, none⟩ = some (.slice q.1 (dtL L k).length q.2) ∧ XD w hi ((kdL L k, dtL L k), q) := fun k hk => by
      obtain ⟨A, c, c0, c1, d1, d2, d3, d4⟩ := hf k hk
      exact ⟨(A, c), c0, c1, d1, d2, d3, d4⟩
    obtain ⟨Q, hQ⟩ := Go.Deep.choose_lt hf'
    refine ⟨(List.range L.length).map fun k => ((kdL L k, dtL L k), Q k), ?_, fun j u hu => ?_, fun t ht => ?_⟩
    · unfold flds
      apply List.ext_getElem (by simp)
      intro i h1 h2
      simp only [List.getElem_map, List.getElem_range, Function.comp]
      unfold kdL dtL
      simp [List.getD_eq_getElem?_getD, List.getElem?_eq_getElem h2]
    · obtain ⟨k, hk, hj⟩ := rowX_get _ j u hu
      have hk' : k < L.length := by simpa using hk
      obtain ⟨c0, c1, _⟩ := hQ k hk'
      rcases hj with ⟨rfl, rfl⟩ | ⟨rfl, rfl⟩
      · rw [ofAdd]; simpa using c0
      · rw [ofAdd, ← Nat.add_assoc]; simpa using c1
    · simp only [List.mem_map, List.mem_range] at ht
      obtain ⟨k, hk, rfl⟩ := ht
      exact (hQ k hk).2.2
  · refine ⟨[], ?_, fun j u hu => by simp [rowX] at hu, fun t ht => by cases ht⟩
    have : L = [] := List.eq_nil_of_length_eq_zero (by omega)
    rw [this]; rfl
end Go.Proofs.YtachhbbofemfdaaDoor
namespace Go.Proofs.YtachhbbofemfdaaDoor
open Go.RowKit
set_option linter.unusedSimpArgs false
set_option linter.unusedVariables false
set_option maxRecDepth 100000
section
variable {w : World} {lo : Nat} {A B : Option Addr} {T U : List XT}
theorem run_append_xb (ty : TypeId) (n c m' c' : Nat) (hn : T.length = n) (hm : U.length = m') (hown : XB w lo A c T) (hcell : ∀ ad, B = some ad → ∀ j u, (rowX U)[j]? = some u → w.cell? (ad.add j) = some u) (hnil : B = none → m' = 0) (hU : ∀ t ∈ U, XD w lo t) (hsz : n + m' ≤ 1000000) (hlo : lo ≤ w.heap.size) :
    ∃ A' c'' w', (Builtin.append_ #[42, 42] ty #[.slice A n c, .slice B m' c']).run Tryd.prog w = .ok (.slice A' (n + m') c'') w' ∧ XB w' lo A' c'' (T ++ U) ∧ Below lo w w' := by
  obtain ⟨i, hi, hz, h1, h2⟩ := info_parts infoExt
  subst hn hm
  rcases B with _ | ad
  · have h0 := hnil rfl
    obtain rfl : U = [] := List.eq_nil_of_length_eq_zero h0
    refine ⟨A, c, w, ?_, by rw [List.append_nil]; exact hown, Below.refl _ _⟩
    rcases hown.1.2 with ⟨he, hl0⟩ | ⟨g, cap, cur, he, _, _, hnc, _⟩
    · injection he with e1 e2 e3
      subst e1 e3
      rw [hl0]
      simp [Builtin.append_, run_underlying Tryd.underlying42, sizeOf, typeInfo, hi, Builtin.lenOf, Builtin.firstCells]
    · injection he with e1 e2 e3
      subst e1 e3
      simp [Builtin.append_, run_underlying Tryd.underlying42, sizeOf, typeInfo, hi, Builtin.lenOf, Builtin.firstCells, hnc, storeCells]
  · obtain ⟨v', w', hrun, r1, r2, _, r3⟩ := run_append_own_at (P := Tryd.prog) w lo 42 ty 62 i (.agg #[.int .i64 0, .slice none 0 0]) 2 32 Tryd.underlying42 hi hz h1 h2 rfl (by omega) (.slice A T.length c) T.length _ hown.1
      ad U.length c' (rowX U) (rowX_len U) (hcell ad rfl) (rowX_one U) (by unfold maxLen; omega) (by omega) hlo
    have hb := below_of_grown r2 hlo fun k hk => (hown.1.lt k hk).1
    obtain ⟨A', c'', rfl, hX⟩ := xb_push hown hU r1 hb
    rw [List.length_append] at hrun
    exact ⟨A', c'', w', hrun, hX, hb⟩
theorem wp_append_xb {o : Oper} {a : Act} {K : Act → World → Prop} {Q : Exit → Act → World → Prop} (d s : Operand) (ho : o.op = .call { callee := .builtin .append, args := #[d, s], argTypes := #[42, 42] })
    (n c m' c' : Nat) (hd : a.eval d = .slice A n c) (hs : a.eval s = .slice B m' c') (hn : T.length = n) (hm : U.length = m') (hown : XB w lo A c T) (hcell : ∀ ad, B = some ad → ∀ j u, (rowX U)[j]? = some u → w.cell? (ad.add j) = some u) (hnil : B = none → m' = 0) (hU : ∀ t ∈ U, XD w lo t) (hsz : n + m' ≤ 1000000) (hlo : lo ≤ w.heap.size)
    (h : ∀ A' c' w', XB w' lo A' c' (T ++ U) → Below lo w w' → K (a.put o.dst (.slice A' (n + m') c')) w') : o.wp Tryd.prog a w K Q := by
  obtain ⟨A', c'', w', hrun, h1, h2⟩ := run_append_xb (c' := c') o.type n c m' hn hm hown hcell hnil hU hsz hlo
  unfold Oper.wp execOp
  simp only [ho, resolve, invoke, builtin, Sem.run_bind, Sem.run_pure, Result.andThen_ok, List.map_toArray, List.map_cons, List.map_nil, hd, hs, hrun]
  exact h A' c'' w' h1 h2
theorem XB.drew {c : Nat} (h : XB w lo A c T) : XB w.drew lo A c T := h
theorem XD.wide {lo' : Nat} {t : XT} (h : XD w lo t) (hl : lo ≤ lo') : XD w lo' t := ⟨h.1.wide (Nat.le_refl _) hl, h.2⟩
theorem XD.drew {t : XT} (h : XD w lo t) : XD w.drew lo t := h
end
/-- a list that came in, as a row, whatever its address -/
theorem xs_rows_any {w : World} {hi lo : Nat} {A : Option Addr} {L : Flds} {n : Nat} (h : Xs w hi A L) (hn : L.length = n) (hA : A = none → n = 0) (hl : hi ≤ lo) : ∃ U : List XT, flds U = L ∧ (∀ ad, A = some ad → ∀ j u, (rowX U)[j]? = some u → w.cell? (ad.add j) = some u) ∧ ∀ t ∈ U, XD w lo t := by
  rcases A with _ | ad
  · have := hA rfl
    obtain rfl : L = [] := List.eq_nil_of_length_eq_zero (by omega)
    exact ⟨[], rfl, fun ad h => (by cases h), fun t ht => by cases ht⟩
  · obtain ⟨U, h1, h2, h3⟩ := xs_rows h
    exact ⟨U, h1, fun ad' e => (by injection e with e; subst e; exact h2), fun t ht => (h3 t ht).wide hl⟩
end Go.Proofs.YtachhbbofemfdaaDoor
