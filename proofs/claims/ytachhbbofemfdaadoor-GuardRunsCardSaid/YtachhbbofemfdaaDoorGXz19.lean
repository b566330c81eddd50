/- The reference's client: Accept, up to what it takes; an append of any number of elements. The reference's client: Accept takes a reply. Owners of blocks: a colouring says whose a block is; the two clients by their colours, and their calls. -/
import Derived.Test.YtachhbbofemfdaaDoorGXz18
import Derived.Test.YtachhbbofemfdaaDoorGXz16
namespace Go.Proofs.YtachhbbofemfdaaDoor
open Go.RowKit
set_option linter.unusedSimpArgs false
set_option linter.unusedVariables false
set_option maxRecDepth 100000
section
variable {P : Program} {w : World} {size g n c off : Nat} {av : List Nat} {xs : List Value} {o : Oper} {a : Act} {K : Act → World → Prop} {Q : Exit → Act → World → Prop}
theorem run_append_rwz (t ty E : TypeId) (i : TypeInfo) (z : Value) (bytes : Nat) (ht : P.underlying t = some (.slice E)) (hi : P.info? E = some i) (hz : i.zero = some z) (hsize : i.size = size) (hby : i.bytes = bytes) (hzs : z.cells.size = size) (hsz : 0 < size)
    (h : Rw w size g av (some ⟨g, off, none⟩) n c xs) (hgl : g < w.heap.size) (ad : Addr) (m c' : Nat) (news : List Value) (hl : news.length = m * size) (hnews : ∀ j u, news[j]? = some u → w.cell? (ad.add j) = some u) (h1 : ∀ u ∈ news, u.oneCell' = true)
    (h63 : n + m ≤ 9223372036854775807) (hbytes : (n + m) * bytes ≤ 140737488355328) (hav : ∀ k, k ∈ av → k < w.heap.size) :
    ∃ g' off' c'' w', (Builtin.append_ #[t, t] ty #[.slice (some ⟨g, off, none⟩) n c, .slice (some ad) m c']).run P w = .ok (.slice (some ⟨g', off', none⟩) (n + m) c'') w' ∧ Rw w' size g' av (some ⟨g', off', none⟩) (n + m) c'' (xs ++ news) ∧ Kp w (fp c g) w' ∧ (g' = g ∨ w.heap.size ≤ g') ∧ g' < w'.heap.size := by
  rcases Nat.eq_zero_or_pos m with rfl | hm
  · obtain rfl : news = [] := List.eq_nil_of_length_eq_zero (by simpa using hl)
    exact ⟨g, off, c, w, run_append_none t ty E i ht hi g off n c h.2.1 ad c', by simpa using h, Kp.refl _ _, .inl rfl, hgl⟩
  · obtain ⟨g', A', c'', w', hrun, hR, hK, hg, hlt⟩ := run_append_rw (c' := c') t ty E i z bytes ht hi hz hsize hby hzs hsz h ad m news hl hm hnews h1 h63 hbytes hav
    obtain ⟨o', rfl, _⟩ := hR.at (k := 0) (by omega) hsz
    exact ⟨g', o', c'', w', hrun, hR, hK, hg, hlt⟩
theorem wpl_append_rwz {ops : Array Oper} {rest : List Oper} (hw : Region.wanted o (yielded ops a.tmps) = true) (T E : TypeId) (z : Value) (bytes : Nat) (d s : Operand) (ho : o.op = .call { callee := .builtin .append, args := #[d, s], argTypes := #[T, T] }) (ht : P.underlying T = some (.slice E)) (hI : (P.info? E).map (fun i => (i.zero, i.size, i.bytes)) = some (some z, size, bytes)) (hzs : z.cells.size = size) (hsz : 0 < size)
    (hd : a.eval d = .slice (some ⟨g, off, none⟩) n c) (h : Rw w size g av (some ⟨g, off, none⟩) n c xs) (hgl : g < w.heap.size) (ad : Addr) (m c' : Nat) (news : List Value) (hs : a.eval s = .slice (some ad) m c') (hl : news.length = m * size) (hnews : ∀ j u, news[j]? = some u → w.cell? (ad.add j) = some u) (h1 : ∀ u ∈ news, u.oneCell' = true)
    (h63 : n + m ≤ 9223372036854775807) (hbytes : (n + m) * bytes ≤ 140737488355328) (hav : ∀ k, k ∈ av → k < w.heap.size)
    (hK : ∀ g' off' c'' w', Rw w' size g' av (some ⟨g', off', none⟩) (n + m) c'' (xs ++ news) → Kp w (fp c g) w' → (g' = g ∨ w.heap.size ≤ g') → g' < w'.heap.size → wpList P ops Q rest (a.put o.dst (.slice (some ⟨g', off', none⟩) (n + m) c'')) w') : wpList P ops Q (o :: rest) a w :=
  wpl_want hw fun K hQ => by
    obtain ⟨i, hi, hz, h1', h2'⟩ := info_parts hI
    obtain ⟨g', off', c'', w', hrun, e1, e2, e3, e4⟩ := run_append_rwz (c' := c') T o.type E i z bytes ht hi hz h1' h2' hzs hsz h hgl ad m news hl hnews h1 h63 hbytes hav
    unfold Oper.wp execOp
    simp only [ho, resolve, invoke, builtin, Sem.run_bind, Sem.run_pure, Result.andThen_ok, List.map_toArray, List.map_cons, List.map_nil, hd, hs, hrun]
    exact hQ _ _ (hK g' off' c'' w' e1 e2 e3 e4)
end
set_option maxRecDepth 100000 in
set_option maxHeartbeats 4000000 in
theorem rcacc_nil (A : Option Addr) (n c : Nat) (w : World) : Calls Tryd.prog 86 #[.pointer none, .slice A n c] w fun e w' => e = .returned (.tuple #[ntp0, .slice none 0 0, .int .i64 1]) ∧ Below w.heap.size w w' := by
  go_enter Tryd.func86, Tryd.ntmps86
  go_wp2_with (first
    | (refine wpl_alloc (by rfl) 27 (by rfl) (.agg (zN).toArray) (zN) zeroNtp rfl ?_; intro w1 J1 s1 b1)
    | ((refine wpl_store (by rfl) 27 _ _ (by rfl) w.heap.size (by rfl) _ (by rfl) _ rfl 27 _ J1 (by rfl) _ sizeNtp (by rfl) (by simp [Value.oneCell']) ?_; intro w2 J2 s2 g2)))
  refine bodyPost_ret (res_cxy Tryd.results86 (by rfl) J2 Tryd.underlying27 rfl sizeNtp (by rfl) (by rfl) (by rfl)) rfl ?_
  exact ⟨rfl, b1.trans (g2.below b1.size (Nat.le_refl _))⟩
set_option maxRecDepth 100000 in
set_option maxHeartbeats 8000000 in
theorem rcacc_err (bc : Nat) (A : Option Addr) (n c : Nat) (b : List Int) (w : World) (hn : b.length = n) (h : Bs w 0 w.heap.size A b) (hnc : n ≤ c) (hc : c ≤ 9223372036854775807) (hm : n ≤ 1000000) (hE : spE b ≠ 0) :
    Calls Tryd.prog 86 #[.pointer (some ⟨bc, 0, none⟩), .slice A n c] w fun e w' => e = .returned (.tuple #[ntp0, .slice none 0 0, .int .i64 (spE b)]) ∧ Below w.heap.size w w' := by
  have hS := fun W hB => rread_err A n c b W hn hB hnc hc hm hE
  have hE' : (spE b != 0) = true := by simpa using hE
  generalize spE b = E at hS hE' ⊢
  clear hE
  go_enter Tryd.func86, Tryd.ntmps86
  go_wp2_with (first
    | ((refine wpl_alloc (by rfl) 27 (by rfl) (.agg (zN).toArray) (zN) zeroNtp rfl ?_; intro w3 T3 s3 b3); (have J3 := J2.below b3 J2.lt); (have B3 := B2.trans (b3.mono B2.size)))
    | (refine wpl_alloc (by rfl) 27 (by rfl) (.agg (zN).toArray) (zN) zeroNtp rfl ?_; intro w1 J1 s1 b1)
    | (go_at_call 35; ((with_reducible refine (hS _ ((h.below b1 (Nat.le_refl _)).wide (Nat.le_refl _) b1.size)).mono ?_); rintro e w2 ⟨rfl, b2⟩; (have J2 := J1.below b2 J1.lt); (have B2 := b1.trans (b2.mono b1.size))))
    | ((refine wpl_store (by rfl) 27 _ _ (by rfl) w2.heap.size (by rfl) _ (by rfl) _ rfl 27 _ T3 (by rfl) _ sizeNtp (by rfl) (by simp [Value.oneCell']) ?_; intro w4 T4 s4 g4); (have J4 := J3.but g4 (Nat.ne_of_lt J2.lt)); (have B4 := B3.trans (g4.below B3.size B2.size)))
    | ((refine wpl_store (by rfl) 27 _ _ (by rfl) w.heap.size (by rfl) _ (by rfl) _ rfl 27 _ J4 (by rfl) _ sizeNtp (by rfl) (by simp [Value.oneCell']) ?_; intro w5 J5 s5 g5); (have B5 := B4.trans (g5.below B4.size (Nat.le_refl _)))))
  refine bodyPost_ret (res_cxy Tryd.results86 (by rfl) J5 Tryd.underlying27 rfl sizeNtp (by rfl) (by rfl) (by rfl)) rfl ?_
  exact ⟨rfl, B5⟩
set_option maxRecDepth 100000 in
set_option maxHeartbeats 8000000 in
theorem rcacc_tag (w : World) {lo bc g1 g2 : Nat} {k0 k1 k2 k3 N : Int} {T U : List CkT} {Ac A2c : Option Addr} {nc cc n2c c2c : Nat} (hC : RcX w lo bc g1 g2 k0 k1 k2 k3 T N U Ac nc cc A2c n2c c2c) (hk2 : U64 k2) (hk3 : U64 k3) (hn8 : nc ≤ 8) (hn28 : n2c ≤ 8)
    (A : Option Addr) (n c : Nat) (b : List Int) (hn : b.length = n) (h : Bs w 0 w.heap.size A b) (hnc : n ≤ c) (hc : c ≤ 9223372036854775807) (hm : n ≤ 1000000) (hE : spE b = 0) (l v m st po pr rd rp id ref org rec xmt : Int) (hV : dcV b = ntp l v m st po pr rd rp id ref org rec xmt) (hT : prvB k2 k3 (spB b) (spA b) = false) :
    Calls Tryd.prog 86 #[.pointer (some ⟨bc, 0, none⟩), .slice A n c] w fun e w' => e = .returned (.tuple #[ntp0, .slice none 0 0, .int .i64 16]) ∧ Below w.heap.size w w' := by
  have hS := fun W hB => rread_ok A n c b W hn hB hnc hc hm hE l v m st po pr rd rp id ref org rec xmt hV
  obtain ⟨hI16, hA12, h12⟩ : (spI b).length = 16 ∧ (spA b).length = 12 ∧ 12 ≤ n := by
    rcases spE_cases b with ⟨h1, h2⟩ | ⟨h1, h2, h3⟩ | ⟨h1, h2, h3, h4⟩ | ⟨h1, h2, h3, h4, h5⟩
    · exact absurd (h2.symm.trans hE) h1
    · exact absurd (h3.symm.trans hE) h2
    · rw [h4] at hE; cases hE
    · exact ⟨h4, h3, by have := (spA_n h.byt hn h1 h2 h3).1; omega⟩
  have hP := fun A4 c4 W hB h4 hc4 hcc4 => rtagged_any A4 c4 (spA b) A n c b k2 k3 W hn h12 hB hnc hc hm hA12 h4 hc4 hcc4 hk2 hk3
  have hL16 := spL_len h.byt
  have hB := hC.blk
  rw [hT] at hP
  have hHA := Lib.hid hA12
  clear hT hE hV hI16 hA12
  go_enter Tryd.func86, Tryd.ntmps86
  go_wp2_with (first
    | ((refine wpl_alloc (by rfl) 27 (by rfl) (.agg (zN).toArray) (zN) zeroNtp rfl ?_; intro w3 T3 s3 b3); (have J3 := J2.below b3 J2.lt); (have B3 := B2.trans (b3.mono B2.size)))
    | (refine wpl_alloc (by rfl) 27 (by rfl) (.agg (zN).toArray) (zN) zeroNtp rfl ?_; intro w1 J1 s1 b1)
    | (go_at_call 35; ((with_reducible refine (hS _ ((h.below b1 (Nat.le_refl _)).wide (Nat.le_refl _) b1.size)).mono ?_); rintro e w2 ⟨P1, p1, q1, P2, q2, P4, q4, rfl, hL1, X2, OI2, OA2, b2⟩; (have J2 := J1.below b2 J1.lt); (have B2 := b1.trans (b2.mono b1.size))))
    | ((refine wpl_store (by rfl) 27 _ _ (by rfl) w2.heap.size (by rfl) _ (by rfl) _ rfl 27 _ T3 (by rfl) _ sizeNtp (by rfl) (by simp [Value.oneCell']) ?_; intro w4 T4 s4 g4); (have J4 := J3.but g4 (Nat.ne_of_lt J2.lt)); (have B4 := B3.trans (g4.below B3.size B2.size)); (have b24 : Below w2.heap.size w2 w4 := b3.trans (But.below (g := w2.heap.size) g4 b3.size (Nat.le_refl _))); (have X4 := X2.below b24 (Nat.le_refl _)); (have OI4 := OI2.below b24 (Nat.le_refl _)); (have OA4 := OA2.below b24 (Nat.le_refl _)); (have hB4 := hB.below B4 hB.lt); (have q4c := OA4.cap_le); rw [hHA.out] at q4c)
    | ((refine wpl_loadm (by rfl) 29 _ (by rfl) bc 2 (by rfl) _ _ hB4 _ _ Tryd.underlying29 rfl _ sizeKey (by rfl) (by rfl) ?_))
    | (go_at_call 38; ((with_reducible refine (hP _ _ _ ((h.below B4 (Nat.le_refl _)).wide (Nat.le_refl _) B4.size) (OA4.bs.wide (Nat.zero_le _) (Nat.le_refl _)) q4c OA4.cap_max).mono ?_); rintro e w5 ⟨rfl, b5⟩; (have J5 := J4.below b5 J4.lt); (have T5 := T4.below b5 T4.lt); (have X5 := X4.below b5 (Nat.le_refl _)); (have OI5 := OI4.below b5 (Nat.le_refl _)); (have B5 := B4.trans (b5.mono B4.size)); (have hC5 := hC.below B5 (Nat.le_refl _))))
    | ((refine wpl_store (by rfl) 27 _ _ (by rfl) w.heap.size (by rfl) _ (by rfl) _ rfl 27 _ J5 (by rfl) _ sizeNtp (by rfl) (by simp [Value.oneCell']) ?_; intro w6 J6 s6 g6); (have B6 := B5.trans (g6.below B5.size (Nat.le_refl _)))))
  refine bodyPost_ret (res_cxy Tryd.results86 (by rfl) J6 Tryd.underlying27 rfl sizeNtp (by rfl) (by rfl) (by rfl)) rfl ?_
  exact ⟨rfl, B6⟩
set_option maxRecDepth 100000 in
set_option maxHeartbeats 8000000 in
theorem rcacc_none (w : World) {lo bc g1 g2 : Nat} {k0 k1 k2 k3 N : Int} {T U : List CkT} {Ac A2c : Option Addr} {nc cc n2c c2c : Nat} (hC : RcX w lo bc g1 g2 k0 k1 k2 k3 T N U Ac nc cc A2c n2c c2c) (hk2 : U64 k2) (hk3 : U64 k3) (hn8 : nc ≤ 8) (hn28 : n2c ≤ 8)
    (A : Option Addr) (n c : Nat) (b : List Int) (hn : b.length = n) (h : Bs w 0 w.heap.size A b) (hnc : n ≤ c) (hc : c ≤ 9223372036854775807) (hm : n ≤ 1000000) (hE : spE b = 0) (l v m st po pr rd rp id ref org rec xmt : Int) (hV : dcV b = ntp l v m st po pr rd rp id ref org rec xmt) (hT : prvB k2 k3 (spB b) (spA b) = true) (hF : fiI (U.map fun t : CkT => t.2.2) (spI b) = -1) :
    Calls Tryd.prog 86 #[.pointer (some ⟨bc, 0, none⟩), .slice A n c] w fun e w' => e = .returned (.tuple #[ntp0, .slice none 0 0, .int .i64 11]) ∧ Below w.heap.size w w' := by
  have hS := fun W hB => rread_ok A n c b W hn hB hnc hc hm hE l v m st po pr rd rp id ref org rec xmt hV
  obtain ⟨hI16, hA12, h12⟩ : (spI b).length = 16 ∧ (spA b).length = 12 ∧ 12 ≤ n := by
    rcases spE_cases b with ⟨h1, h2⟩ | ⟨h1, h2, h3⟩ | ⟨h1, h2, h3, h4⟩ | ⟨h1, h2, h3, h4, h5⟩
    · exact absurd (h2.symm.trans hE) h1
    · exact absurd (h3.symm.trans hE) h2
    · rw [h4] at hE; cases hE
    · exact ⟨h4, h3, by have := (spA_n h.byt hn h1 h2 h3).1; omega⟩
  have hP := fun A4 c4 W hB h4 hc4 hcc4 => rtagged_any A4 c4 (spA b) A n c b k2 k3 W hn h12 hB hnc hc hm hA12 h4 hc4 hcc4 hk2 hk3
  have hL16 := spL_len h.byt
  have hB := hC.blk
  rw [hT] at hP
  have hHA := Lib.hid hA12
  have hHI := Lib.hid hI16
  have hFi := fun W (hC : RcX W lo bc g1 g2 k0 k1 k2 k3 T N U Ac nc cc A2c n2c c2c) B d hB => rwaits_any W hC B d (spI b) hHI.out hB (by omega)
  rw [hF] at hFi
  clear hT hE hV hI16 hA12 hF
  go_enter Tryd.func86, Tryd.ntmps86
  go_wp2_with (first
    | ((refine wpl_alloc (by rfl) 27 (by rfl) (.agg (zN).toArray) (zN) zeroNtp rfl ?_; intro w3 T3 s3 b3); (have J3 := J2.below b3 J2.lt); (have B3 := B2.trans (b3.mono B2.size)))
    | (refine wpl_alloc (by rfl) 27 (by rfl) (.agg (zN).toArray) (zN) zeroNtp rfl ?_; intro w1 J1 s1 b1)
    | (go_at_call 35; ((with_reducible refine (hS _ ((h.below b1 (Nat.le_refl _)).wide (Nat.le_refl _) b1.size)).mono ?_); rintro e w2 ⟨P1, p1, q1, P2, q2, P4, q4, rfl, hL1, X2, OI2, OA2, b2⟩; (have J2 := J1.below b2 J1.lt); (have B2 := b1.trans (b2.mono b1.size))))
    | ((refine wpl_store (by rfl) 27 _ _ (by rfl) w2.heap.size (by rfl) _ (by rfl) _ rfl 27 _ T3 (by rfl) _ sizeNtp (by rfl) (by simp [Value.oneCell']) ?_; intro w4 T4 s4 g4); (have J4 := J3.but g4 (Nat.ne_of_lt J2.lt)); (have B4 := B3.trans (g4.below B3.size B2.size)); (have b24 : Below w2.heap.size w2 w4 := b3.trans (But.below (g := w2.heap.size) g4 b3.size (Nat.le_refl _))); (have X4 := X2.below b24 (Nat.le_refl _)); (have OI4 := OI2.below b24 (Nat.le_refl _)); (have OA4 := OA2.below b24 (Nat.le_refl _)); (have hB4 := hB.below B4 hB.lt); (have q4c := OA4.cap_le); rw [hHA.out] at q4c)
    | ((refine wpl_loadm (by rfl) 29 _ (by rfl) bc 2 (by rfl) _ _ hB4 _ _ Tryd.underlying29 rfl _ sizeKey (by rfl) (by rfl) ?_))
    | (go_at_call 38; ((with_reducible refine (hP _ _ _ ((h.below B4 (Nat.le_refl _)).wide (Nat.le_refl _) B4.size) (OA4.bs.wide (Nat.zero_le _) (Nat.le_refl _)) q4c OA4.cap_max).mono ?_); rintro e w5 ⟨rfl, b5⟩; (have J5 := J4.below b5 J4.lt); (have T5 := T4.below b5 T4.lt); (have X5 := X4.below b5 (Nat.le_refl _)); (have OI5 := OI4.below b5 (Nat.le_refl _)); (have B5 := B4.trans (b5.mono B4.size)); (have hC5 := hC.below B5 (Nat.le_refl _))))
    | (go_at_call 100; ((with_reducible refine (hFi _ hC5 _ _ (OI5.bs.wide (Nat.zero_le _) (Nat.le_refl _))).mono ?_); rintro e w6 ⟨rfl, b6⟩; (have J6 := J5.below b6 J5.lt); (have B6 := B5.trans (b6.mono B5.size))))
    | ((refine wpl_store (by rfl) 27 _ _ (by rfl) w.heap.size (by rfl) _ (by rfl) _ rfl 27 _ J6 (by rfl) _ sizeNtp (by rfl) (by simp [Value.oneCell']) ?_; intro w7 J7 s7 g7); (have B7 := B6.trans (g7.below B6.size (Nat.le_refl _)))))
  refine bodyPost_ret (res_cxy Tryd.results86 (by rfl) J7 Tryd.underlying27 rfl sizeNtp (by rfl) (by rfl) (by rfl)) rfl ?_
  exact ⟨rfl, B7⟩
end Go.Proofs.YtachhbbofemfdaaDoor
namespace Go.Proofs.YtachhbbofemfdaaDoor
open Go.RowKit
set_option linter.unusedSimpArgs false
set_option linter.unusedVariables false
set_option maxRecDepth 100000
theorem Rw.cells {w : World} {size g n c o : Nat} {av : List Nat} {xs : List Value} (h : Rw w size g av (some ⟨g, o, none⟩) n c xs) : ∀ j, j < n * size → w.cell? ⟨g, o + j, none⟩ = xs[j]? := fun j hj => by
  obtain ⟨h1, h2, h3, h4⟩ := h
  rcases h4 with h4 | ⟨_, o', e, h5, _⟩
  · have : n = 0 := by omega
    subst this
    simp at hj
  · injection e with e
    injection e with e1 e2
    subst e2
    exact h5 j hj
section
variable {w x : World} {lo b g1 g2 : Nat} {t : TypeId} {F : Value → Value → List Value} {p q : Nat} {T U : List CkT} {A A2 : Option Addr} {n c n2 c2 : Nat}
/-- a row is replaced by one in another block -/
theorem TwX.swapin' {T' : List CkT} {g' n' c' : Nat} {A' : Option Addr} (h : TwX w lo b g1 g2 t F p q T U A n c A2 n2 c2) (hT : ∀ v ∈ T', v ∈ T) (tn : T'.length = n')
    (hr : Rw w 1 g' [b, g2] A' n' c' (T'.map ckV)) (hl : g' < w.heap.size) (hl2 : lo ≤ g') (hgb : g' ≠ b ∧ g' ≠ g2) (hgk : ∀ v ∈ T ++ U, v.1 ≠ g') (hgx : But b w x) (hBx : Blk x b t (F (.slice A' n' c') (.slice A2 n2 c2))) :
    TwX x lo b g' g2 t F p q T' U A' n' c' A2 n2 c2 := by
  have hk2 : Kp w [b] x := Kp.of_but hgx (.inr (by simp))
  have key : ∀ v : CkT, v.1 ≠ g' → Ck w lo [b, g1, g2] v → Ck x lo [b, g', g2] v := fun v hg hv => by
    have hv3 : v.1 ≠ b ∧ v.1 ≠ g1 ∧ v.1 ≠ g2 := by simpa using hv.2
    exact hv.kp hk2 (by simpa using hv3.1) (by simp; exact ⟨hv3.1, hg, hv3.2.2⟩)
  refine ⟨hBx, tn, h.un, hr.kp hk2 (by omega) (fun _ _ => by simpa using hgb.1), ((h.ws.av' fun _ hx => ?_)).kp hk2 (by omega) (fun _ hx => ?_), fun v hv => ⟨key v (hgk v (List.mem_append_left _ (hT v hv))) (h.ck v (hT v hv)).1, (h.ck v (hT v hv)).2⟩, fun v hv => ⟨key v (hgk v (List.mem_append_right _ hv)) (h.wk v hv).1, (h.wk v hv).2⟩, h.lob, hl2, h.lo2, Nat.lt_of_lt_of_le hl hgx.size, Nat.lt_of_lt_of_le h.lt2 hgx.size⟩
  · have h3 : g2 ≠ b ∧ g2 ≠ g1 := by simpa using hx
    simp
    exact ⟨h3.1, fun e => hgb.2 e.symm⟩
  · have h3 : g2 ≠ b ∧ g2 ≠ g' := by simpa using hx
    simpa using h3.1
end
theorem ckN_push {CK F X : List (List Int)} {l : List Int} (h : X = ckN CK F) (hl : X.length < 8) : X ++ [l] = ckN CK (F ++ [l]) := by
  unfold ckN at *
  rw [h, List.length_take] at hl
  rw [h, List.take_of_length_le (by omega), ← List.append_assoc, List.take_of_length_le (by rw [List.length_append]; simp only [List.length_cons, List.length_nil]; omega)]
theorem ckN_more {CK F X : List (List Int)} {l : List Int} (h : X = ckN CK F) (hl : 8 ≤ X.length) : X = ckN CK (F ++ [l]) := by
  unfold ckN at *
  rw [h, List.length_take] at hl
  rw [h, ← List.append_assoc, List.take_append_of_le_length (l₂ := [l]) (by omega)]
set_option maxRecDepth 100000 in
set_option maxHeartbeats 32000000 in
theorem rcacc_some (w : World) {lo bc g1 g2 : Nat} {k0 k1 k2 k3 N : Int} {T U : List CkT} {Ac A2c : Option Addr} {nc cc n2c c2c : Nat} (hC : RcX w lo bc g1 g2 k0 k1 k2 k3 T N U Ac nc cc A2c n2c c2c) (hk2 : U64 k2) (hk3 : U64 k3) (hn8 : nc ≤ 8) (hn28 : n2c ≤ 8)
    (A : Option Addr) (n c : Nat) (b : List Int) (hn : b.length = n) (h : Bs w 0 w.heap.size A b) (hnc : n ≤ c) (hc : c ≤ 9223372036854775807) (hm : n ≤ 1000000) (hE : spE b = 0) (l v m st po pr rd rp id ref org rec xmt : Int) (hV : dcV b = ntp l v m st po pr rd rp id ref org rec xmt) (hT : prvB k2 k3 (spB b) (spA b) = true) (k : Nat) (hk : k < n2c) (hF : fiI (U.map fun t : CkT => t.2.2) (spI b) = k) :
    Calls Tryd.prog 86 #[.pointer (some ⟨bc, 0, none⟩), .slice A n c] w fun e w' => (frB (spL b) = false ∧ e = .returned (.tuple #[ntp0, .slice none 0 0, .int .i64 7]) ∧ Below w.heap.size w w') ∨
      (frB (spL b) = true ∧ ∃ g1' g2' T' U' Ac' nc' cc' A2' c2' P1 p1 q1, e = .returned (.tuple #[ntp l v m st po pr rd rp id ref org rec xmt, .slice P1 p1 q1, .int .i64 0]) ∧ (spL b).length = p1 ∧ XO w' w.heap.size P1 q1 (spL b) ∧ RcX w' lo bc g1' g2' k0 k1 k2 k3 T' N U' Ac' nc' cc' A2' (n2c - 1) c2' ∧
        T'.map (fun t : CkT => t.2.2) = ckN (T.map fun t : CkT => t.2.2) (frs (spL b)) ∧ U'.map (fun t : CkT => t.2.2) = (U.map fun t : CkT => t.2.2).take k ++ (U.map fun t : CkT => t.2.2).drop (k + 1) ∧ Kp w [bc, g1, g2] w' ∧ (g1' = g1 ∨ w.heap.size ≤ g1') ∧ w.heap.size ≤ g2' ∧ (∀ t ∈ T', t ∈ T ∨ w.heap.size ≤ t.1) ∧ ∀ t ∈ U', t ∈ U) := by
  have hS := fun W hB => rread_ok A n c b W hn hB hnc hc hm hE l v m st po pr rd rp id ref org rec xmt hV
  obtain ⟨hI16, hA12, h12⟩ : (spI b).length = 16 ∧ (spA b).length = 12 ∧ 12 ≤ n := by
    rcases spE_cases b with ⟨h1, h2⟩ | ⟨h1, h2, h3⟩ | ⟨h1, h2, h3, h4⟩ | ⟨h1, h2, h3, h4, h5⟩
    · exact absurd (h2.symm.trans hE) h1
    · exact absurd (h3.symm.trans hE) h2
    · rw [h4] at hE; cases hE
    · exact ⟨h4, h3, by have := (spA_n h.byt hn h1 h2 h3).1; omega⟩
  have hP := fun A4 c4 W hB h4 hc4 hcc4 => rtagged_any A4 c4 (spA b) A n c b k2 k3 W hn h12 hB hnc hc hm hA12 h4 hc4 hcc4 hk2 hk3
  have hL16 := spL_len h.byt
  have hB := hC.blk
  rw [hT] at hP
  have hHA := Lib.hid hA12
  have hHI := Lib.hid hI16
  have hFi := fun W (hC : RcX W lo bc g1 g2 k0 k1 k2 k3 T N U Ac nc cc A2c n2c c2c) B d hB => rwaits_any W hC B d (spI b) hHI.out hB (by omega)
  rw [hF] at hFi
  have hkn : decide ((k : Int) < 0) = false := decide_eq_false (by omega)
  generalize spL b = L at hS hL16 ⊢
  clear hT hE hV hI16 hA12 hF hn
  go_enter Tryd.func86, Tryd.ntmps86
  go_wp2_with (first
    | ((refine wpl_alloc (by rfl) 27 (by rfl) (.agg (zN).toArray) (zN) zeroNtp rfl ?_; intro w3 T3 s3 b3); (have J3 := J2.below b3 J2.lt); (have B3 := B2.trans (b3.mono B2.size)))
    | (refine wpl_alloc (by rfl) 27 (by rfl) (.agg (zN).toArray) (zN) zeroNtp rfl ?_; intro w1 J1 s1 b1)
    | (go_at_call 35; ((with_reducible refine (hS _ ((h.below b1 (Nat.le_refl _)).wide (Nat.le_refl _) b1.size)).mono ?_); rintro e w2 ⟨P1, p1, q1, P2, q2, P4, q4, rfl, hL1, X2, OI2, OA2, b2⟩; (have J2 := J1.below b2 J1.lt); (have B2 := b1.trans (b2.mono b1.size))))
    | ((refine wpl_store (by rfl) 27 _ _ (by rfl) w2.heap.size (by rfl) _ (by rfl) _ rfl 27 _ T3 (by rfl) _ sizeNtp (by rfl) (by simp [Value.oneCell']) ?_; intro w4 T4 s4 g4); (have J4 := J3.but g4 (Nat.ne_of_lt J2.lt)); (have B4 := B3.trans (g4.below B3.size B2.size)); (have b24 : Below w2.heap.size w2 w4 := b3.trans (But.below (g := w2.heap.size) g4 b3.size (Nat.le_refl _))); (have X4 := X2.below b24 (Nat.le_refl _)); (have OI4 := OI2.below b24 (Nat.le_refl _)); (have OA4 := OA2.below b24 (Nat.le_refl _)); (have hB4 := hB.below B4 hB.lt); (have q4c := OA4.cap_le); rw [hHA.out] at q4c)
    | ((refine wpl_loadm (by rfl) 29 _ (by rfl) bc 2 (by rfl) _ _ hB4 _ _ Tryd.underlying29 rfl _ sizeKey (by rfl) (by rfl) ?_))
    | (go_at_call 38; ((with_reducible refine (hP _ _ _ ((h.below B4 (Nat.le_refl _)).wide (Nat.le_refl _) B4.size) (OA4.bs.wide (Nat.zero_le _) (Nat.le_refl _)) q4c OA4.cap_max).mono ?_); rintro e w5 ⟨rfl, b5⟩; (have J5 := J4.below b5 J4.lt); (have T5 := T4.below b5 T4.lt); (have X5 := X4.below b5 (Nat.le_refl _)); (have OI5 := OI4.below b5 (Nat.le_refl _)); (have B5 := B4.trans (b5.mono B4.size)); (have hC5 := hC.below B5 (Nat.le_refl _))))
    | (go_at_call 100; ((with_reducible refine (hFi _ hC5 _ _ (OI5.bs.wide (Nat.zero_le _) (Nat.le_refl _))).mono ?_); rintro e w6 ⟨rfl, b6⟩; (have J6 := J5.below b6 J5.lt); (have T6 := T5.below b6 T5.lt); (have X6 := X5.below b6 (Nat.le_refl _)); (have hC6 := hC5.below b6 (Nat.le_refl _)); (have B6 := B5.trans (b6.mono B5.size)))))
  have hl12 : w.heap.size < w1.heap.size := J1.lt
  have zw2 : w.heap.size ≤ w2.heap.size := B2.size
  have hj12 : w.heap.size < w2.heap.size := J2.lt
  clear J1 J2 J3 J4 J5 T3 T4 T5 b1 b2 b3 b24 b5 b6 g4 X2 X4 X5 OI2 OI4 OI5 OA2 OA4 hB4 q4c B2 B3 B4 B5 hC5 hS hP hFi s1 s3 s4
  go_loop [13] (fun i => ∃ j : Nat, j ≤ p1 ∧ i = .int .i64 j ∧ Hid (∀ q, q < j → kdL L q = 772 → (dtL L q).length = 52)) (fun i => p1 - (intOf i).toNat)
  case atStart => exact ⟨0, by omega, rfl, fun q hq => absurd hq (by omega)⟩
  case round =>
    obtain ⟨j, hj, rfl, hV⟩ := hrel
    by_cases hlt : j < p1
    · obtain ⟨gx, Ak, ck, rfl, _, _, hrg, _⟩ := X6.at (k := j) (by omega)
      have e0 : w6.cell? ⟨gx, j * 2, none⟩ = some (.int .i64 (kdL L j)) := by simpa using range_cell hrg 0 rfl
      have e1 : w6.cell? ⟨gx, j * 2 + 1, none⟩ = some (.slice Ak (dtL L j).length ck) := range_cell hrg 1 rfl
      have hi0 : (0 : Int) ≤ j := by omega
      have hi1 : (j : Int) < p1 := by omega
      obtain ⟨D, hD⟩ : ∃ D, (dtL L j).length = D := ⟨_, rfl⟩
      obtain ⟨K, hK⟩ : ∃ K, kdL L j = K := ⟨_, rfl⟩
      rw [hD] at e1
      rw [hK] at e0
      have HD := Lib.hid hD
      have HK := Lib.hid hK
      clear hrg hD hK
      by_cases hK7 : K = 772
      · have hK7' : (K == 772) = true := by simpa using hK7
        by_cases hD5 : D = 52
        · have hD5' : ((D : Int) != 52) = false := by simp; omega
          have hV' : Hid (∀ q, q < j + 1 → kdL L q = 772 → (dtL L q).length = 52) := fun q hq hkq => by
            rcases Nat.lt_or_ge q j with h1 | h1
            · exact hV.out q h1 hkq
            · obtain rfl : q = j := by omega
              rw [HD.out]; exact hD5
          clear hK7 hD5
          go_wp2
          exact ⟨⟨j + 1, by omega, by go_num, hV'⟩, by simp [intOf]; omega⟩
        · have hD5' : ((D : Int) != 52) = true := by simp; omega
          have hfr := Lib.hid (frB_no (L := L) (k := j) (by omega) (HK.out.trans hK7) (by rw [HD.out]; exact hD5))
          clear hK7 hD5
          go_wp2_with (first
            | ((refine wpl_store (by rfl) 27 _ _ (by rfl) w.heap.size (by rfl) _ (by rfl) _ rfl 27 _ J6 (by rfl) _ sizeNtp (by rfl) (by simp [Value.oneCell']) ?_; intro w7 J7 s7 g7)))
          refine bodyPost_ret (res_cxy Tryd.results86 (by rfl) J7 Tryd.underlying27 rfl sizeNtp (by rfl) (by rfl) (by rfl)) rfl ?_
          exact .inl ⟨hfr.out, rfl, B6.trans (g7.below B6.size (Nat.le_refl _))⟩
      · have hK7' : (K == 772) = false := by simpa using hK7
        have hV' : Hid (∀ q, q < j + 1 → kdL L q = 772 → (dtL L q).length = 52) := fun q hq hkq => by
          rcases Nat.lt_or_ge q j with h1 | h1
          · exact hV.out q h1 hkq
          · obtain rfl : q = j := by omega
            rw [HK.out] at hkq
            exact absurd hkq hK7
        clear hK7
        go_wp2
        exact ⟨⟨j + 1, by omega, by go_num, hV'⟩, by simp [intOf]; omega⟩
    · obtain rfl : j = p1 := by omega
      have hfr : frB L = true := frB_yes fun d hd => by
        unfold frs at hd
        obtain ⟨t, ht, rfl⟩ := List.mem_map.1 hd
        obtain ⟨ht1, ht2⟩ := List.mem_filter.1 ht
        obtain ⟨i, hi, rfl⟩ := List.mem_iff_getElem.1 ht1
        obtain ⟨e1, e2⟩ := kd_get hi
        have := hV.out i (by omega) (by rw [e1]; simpa using ht2)
        rw [e2] at this
        exact this
      have Hfr := Lib.hid hfr
      have HV := hV
      clear hfr hV hlt
      obtain ⟨w7, hw7⟩ : ∃ w7, w6.alloc (.cells #[] 23) = w7 := ⟨_, rfl⟩
      have b7 : Below w6.heap.size w6 w7 := by rw [← hw7]; exact al8 _ _
      have N7 : Blk w7 w6.heap.size 23 [] := by rw [← hw7]; exact Blk.new w6 23 #[] [] rfl
      have z7 : w6.heap.size < w7.heap.size := N7.lt
      have hC7 := hC6.below b7 (Nat.le_refl _)
      have hB7 := hC7.blk
      obtain ⟨o2, hA2, _⟩ := hC7.ws.at (k := k) hk (by omega)
      subst hA2
      have hcn := hC7.ws.2.1
      have hkc : (k : Int) ≤ c2c := by omega
      have hun := hC7.un
      have hRw0 : Rw w7 1 w6.heap.size [bc, g1] (some ⟨w6.heap.size, 0, none⟩) 0 0 [] := ⟨by simp, Nat.le_refl _, by omega, .inl rfl⟩
      have hl1 : ((U.take k).map ckV).length = k * 1 := by rw [List.length_map, List.length_take]; omega
      have hn1 : ∀ j u, ((U.take k).map ckV)[j]? = some u → w7.cell? ((⟨g2, o2, none⟩ : Addr).add j) = some u := fun j u hu => by
        have hj := (List.getElem?_eq_some_iff.1 hu).1
        rw [hl1] at hj
        rw [ofAdd, hC7.ws.cells j (by omega), ← hu, List.map_take, List.getElem?_take, if_pos (by omega)]
      have hl2 : ((U.drop (k + 1)).map ckV).length = (n2c - (k + 1)) * 1 := by rw [List.length_map, List.length_drop]; omega
      obtain ⟨ad, hAB, hsrc⟩ : ∃ ad, (if c2c = k + 1 then some (⟨g2, o2, none⟩ : Addr) else some ⟨g2, o2 + (k + 1), none⟩) = some ad ∧ ∀ W : World, Rw W 1 g2 [bc, g1] (some ⟨g2, o2, none⟩) n2c c2c (U.map ckV) → ∀ j u, ((U.drop (k + 1)).map ckV)[j]? = some u → W.cell? (ad.add j) = some u := by
        by_cases hcc : c2c = k + 1
        · refine ⟨_, if_pos hcc, fun W hW j u hu => ?_⟩
          have hj := (List.getElem?_eq_some_iff.1 hu).1
          rw [hl2] at hj
          omega
        · refine ⟨_, if_neg hcc, fun W hW j u hu => ?_⟩
          have hj := (List.getElem?_eq_some_iff.1 hu).1
          rw [hl2] at hj
          rw [ofAdd, Nat.add_assoc, hW.cells _ (by omega), ← hu, List.map_drop, List.getElem?_drop]
      have hk1 : IntKind.i64.wrap ((k : Int) + 1) = (k : Int) + 1 := IntWalk.i64_in _ (by omega)
      have hk2' : (k : Int) + 1 ≤ n2c := by omega
      have hk3' : ((k : Int) + 1).toNat = k + 1 := by omega
      have hk4 : (0 : Int) ≤ (k : Int) + 1 := by omega
      have hk5 : (k : Int) + 1 ≤ c2c := by omega
      have ckold : ∀ v ∈ T ++ U, v.1 < w6.heap.size := fun v hv => by
        rw [List.mem_append] at hv
        rcases hv with hv | hv
        · exact (hC6.ck v hv).1.lt.2
        · exact (hC6.wk v hv).1.lt.2
      have zg1 := hC6.lt1
      have zg2 := hC6.lt2
      have zbc := hC6.blk.lt
      go_wp2_with (first
        | (refine wpl_loadf (by rfl) 51 _ (by rfl) bc 6 (by rfl) _ _ hB7 _ rfl _ Tryd.underlying51 rfl ?_)
        | (refine wpl_append_rwz (by rfl) 51 23 (.slice none 0 0) 24 (.tmp 68) (.tmp 74) (by rfl) Tryd.underlying51 infoSl (by rfl) (by omega) (by rfl) hRw0 z7 ⟨g2, o2, none⟩ k c2c ((U.take k).map ckV) (by rfl) hl1 hn1 (ck_one _) (by omega) (by omega) (two_lt (by omega) (by omega)) ?_; intro g8 o8 c8 w8 R8 K8 G8 L8; have hC8 : RcX w8 lo bc g1 g2 k0 k1 k2 k3 T N U Ac nc cc (some ⟨g2, o2, none⟩) n2c c2c := hC7.kp K8 (by simp [fp]) (by simp [fp]) (by simp [fp]) (fun _ _ => by simp [fp]); have hB8 := hC8.blk; have R8' : Rw w8 1 g8 [bc, g1] (some ⟨g8, o8, none⟩) k c8 ((U.take k).map ckV) := (by simpa using R8); have z78 := K8.size)
        | (refine wpl_loadf (by rfl) 51 _ (by rfl) bc 6 (by rfl) _ _ hB8 _ rfl _ Tryd.underlying51 rfl ?_)
        | (refine wpl_append_rwz (by rfl) 51 23 (.slice none 0 0) 24 (.tmp 77) (.tmp 84) (by rfl) Tryd.underlying51 infoSl (by rfl) (by omega) (by rfl) R8' L8 ad (n2c - (k + 1)) (c2c - (k + 1)) ((U.drop (k + 1)).map ckV) (by rfl) hl2 (hsrc w8 hC8.ws) (ck_one _) (by omega) (by omega) (two_lt (by omega) (by omega)) ?_; intro g9 o9 c9 w9 R9 K9 G9 L9; have hg8 : w6.heap.size ≤ g8 := (by rcases G8 with G8 | G8 <;> omega); have hC9 : RcX w9 lo bc g1 g2 k0 k1 k2 k3 T N U Ac nc cc (some ⟨g2, o2, none⟩) n2c c2c := hC8.kp K9 (fun hm => by have := (fp_mem hm).2; omega) (fun hm => by have := (fp_mem hm).2; omega) (fun hm => by have := (fp_mem hm).2; omega) (fun v hv hm => by have := (fp_mem hm).2; have := ckold v hv; omega); have hB9 := hC9.blk)
        | (refine wpl_storeg (by rfl) 51 _ _ (by rfl) bc 6 (by rfl) (.slice (some ⟨g9, o9, none⟩) (k + (n2c - (k + 1))) c9) (by rfl) (by rfl) (by simp [Value.oneCell']) _ _ (rcF k0 k1 k2 k3 N (.slice Ac nc cc) (.slice (some ⟨g9, o9, none⟩) (k + (n2c - (k + 1))) c9)) hB9 (by simp) sizeSls (by rfl) ?_; intro w10 hB10 s10 g10))
      have hg9 : w6.heap.size ≤ g9 := by rcases G9 with G9 | G9 <;> omega
      have e9 : k + (n2c - (k + 1)) = n2c - 1 := by omega
      have hU' : ∀ v ∈ U.take k ++ U.drop (k + 1), v ∈ U := fun v hv => by
        rw [List.mem_append] at hv
        rcases hv with hv | hv
        · exact List.mem_of_mem_take hv
        · exact List.mem_of_mem_drop hv
      have hlob := hC6.lob
      have hC10s := hC9.swap.swapin' (T' := U.take k ++ U.drop (k + 1)) (n' := k + (n2c - (k + 1))) hU' (by rw [List.length_append, List.length_take, List.length_drop]; omega) (by rw [List.map_append]; exact R9) L9 (by omega) ⟨by omega, by omega⟩ (fun v hv => by have := ckold v (by rw [List.mem_append] at hv ⊢; exact hv.symm); omega) g10 hB10
      rw [e9] at hC10s
      have hC10 : RcX w10 lo bc g1 g9 k0 k1 k2 k3 T N (U.take k ++ U.drop (k + 1)) Ac nc cc (some ⟨g9, o9, none⟩) (n2c - 1) c9 := hC10s.swap.fun_eq (fun _ _ => rfl)
      have K6 : Kp w6 [bc] w10 := (kp_trans2 (kp_trans2 ((Kp.refl w6 [bc]).belowS b7) K8 (fun q hq => by simp [fp] at hq)) K9 (fun q hq => .inl (by have := (fp_mem hq).2; omega))).but g10 (.inr (by simp))
      have K10 : Kp w [bc, g1, g2] w10 := kp_trans2 (Kp.of_below B6) K6 (fun q hq => .inr (by rw [List.mem_singleton.1 hq]; simp))
      have zbw := hC.blk.lt
      have zg1w := hC.lt1
      have hTlt : ∀ v ∈ T, v.1 < w.heap.size := fun v hv => (hC.ck v hv).1.lt.2
      have hUlt : ∀ v ∈ U.take k ++ U.drop (k + 1), v.1 < w.heap.size := fun v hv => (hC.wk v (hU' v hv)).1.lt.2
      have zt6 := T6.lt
      have J10 := K6.blk J6 (by simp; omega)
      have T10 := K6.blk T6 (by simp; omega)
      have X10 := X6.keep fun q h1 h2 => K6.block q h2 (by simp; omega)
      have hI' : (U.take k ++ U.drop (k + 1)).map (fun t : CkT => t.2.2) = (U.map fun t : CkT => t.2.2).take k ++ (U.map fun t : CkT => t.2.2).drop (k + 1) := by rw [List.map_append, List.map_take, List.map_drop]
      have HI' := Lib.hid hI'
      have z610 := K6.size
      have zw6 : w.heap.size ≤ w6.heap.size := B6.size
      have hTl := hC6.tn
      have hx10 : w.heap.size ≤ g9 := by omega
      have HUin := Lib.hid hU'
      generalize hUU : U.take k ++ U.drop (k + 1) = U' at *
      clear hI' hUU hC10s hC9 hC8 hC7 hC6 R8 R8' R9 K8 K9 g10 hB10 hB9 hB8 hB7 hRw0 hl1 hn1 hl2 hsrc hAB hk1 hk2' hk3' hk4 hk5 ckold J6 T6 X6 b7 N7 hw7 hU' e9 G8 L8 G9 L9 zbc zg1 zg2 K6 B6
      go_loopw [15] (fun i wr => ∃ jj : Nat, jj ≤ j ∧ i = .int .i64 jj ∧ ∃ g1x Tx Ax nx cx, RcX wr lo bc g1x g9 k0 k1 k2 k3 Tx N U' Ax nx cx (some ⟨g9, o9, none⟩) (n2c - 1) c9 ∧ Hid (Tx.map (fun t : CkT => t.2.2) = ckN (T.map fun t : CkT => t.2.2) (frs (L.take jj))) ∧ Kp w10 [bc, g1] wr ∧ (g1x = g1 ∨ w10.heap.size ≤ g1x) ∧ Hid (∀ v ∈ Tx, v ∈ T ∨ w.heap.size < v.1)) (fun i _ => j - (intOf i).toNat)
      case atStart => exact ⟨0, by omega, rfl, g1, T, Ac, nc, cc, hC10, (ckN_start (R := frs L) (by rw [List.length_map]; omega)).symm, Kp.refl _ _, .inl rfl, fun v hv => .inl hv⟩
      case round =>
        obtain ⟨jj, hjj, rfl, g1x, Tx, Ax, nx, cx, hC, hTx, hKr, hgx, hTw⟩ := hrel
        clear hC10
        obtain ⟨wo, rfl⟩ : ∃ wo : World, wo = wr := ⟨wr, rfl⟩
        have hTl' := hC.tn
        have hnx : nx ≤ 8 := by have h1 := congrArg List.length hTx.out; rw [List.length_map, hTl'] at h1; have h2 := ckN_len (T.map fun t : CkT => t.2.2) (frs (L.take jj)); omega
        have zr := hKr.size
        have Xo := X10.keep fun q h1 h2 => hKr.block q h2 (by simp; omega)
        have Jo := hKr.blk J10 (by simp; omega)
        have To := hKr.blk T10 (by simp; omega)
        have hb4 : wo.cell? ⟨bc, 4, none⟩ = some (.slice Ax nx cx) := hC.blk.cell rfl
        by_cases hlt : jj < j
        · obtain ⟨bb, Ak', ck', hP1, hbx1, hbx2, _, _⟩ := X10.at (k := jj) (by omega)
          subst hP1
          obtain ⟨bb', Ak, ck, hP1, _, _, hrg, hO⟩ := Xo.at (k := jj) (by omega)
          injection hP1 with hP1
          injection hP1 with hP1
          subst hP1
          have ek : wo.cell? ⟨bb, jj * 2, none⟩ = some (.int .i64 (kdL L jj)) := by simpa using range_cell hrg 0 rfl
          have e0 : wo.cell? ⟨bb, jj * 2 + 1, none⟩ = some (.slice Ak (dtL L jj).length ck) := range_cell hrg 1 rfl
          have hi0 : (0 : Int) ≤ jj := by omega
          have hi1 : (jj : Int) < j := by omega
          have h52 := HV.out jj (by omega)
          have hfy := frs_yes (L := L) (k := jj) (by omega)
          have hfn := frs_no (L := L) (k := jj) (by omega)
          generalize kdL L jj = K at ek h52 hfy hfn
          generalize dtL L jj = l at e0 h52 hfy hO
          clear hrg
          by_cases hK7 : K = 772
          · have hK7' : (K == 772) = true := by simpa using hK7
            have hl := h52 hK7
            have hfy := hfy hK7
            rw [hl] at e0
            clear h52 hfn hK7
            by_cases hn8' : nx < 8
            · have hd8 : decide ((nx : Int) < 8) = true := decide_eq_true (by omega)
              have hbb : bb < wo.heap.size := by omega
              have hbg1 : bb ≠ g1x := by rcases hgx with e | e <;> omega
              have hBk : Bs wo 0 wo.heap.size Ak l := hO.bs.wide (Nat.zero_le _) (Nat.le_refl _)
              have HT : Hid (Tx.map (fun t : CkT => t.2.2) ++ [l] = ckN (T.map fun t : CkT => t.2.2) (frs (L.take (jj + 1)))) := by
                show _ = _
                rw [hfy]
                exact ckN_push hTx.out (by rw [List.length_map, hTl']; exact hn8')
              clear hfy hTx
              go_wp2_with fail
              have hz0 : wo.drew.heap.size = wo.heap.size := rfl
              refine wp_region_S (fun y => y.cell? ⟨bc, 4, none⟩ = some (.slice Ax nx cx) ∧ y.cell? ⟨bb, jj * 2 + 1, none⟩ = some (.slice Ak 52 ck)) 16 17 (by kernel_rfl) rfl ?_
              have hHeld : wo.drew.cell? ⟨bc, 4, none⟩ = some (.slice Ax nx cx) ∧ (fun y : World => y.cell? ⟨bb, jj * 2 + 1, none⟩ = some (.slice Ak 52 ck)) wo.drew := ⟨hC.drew.blk.cell rfl, e0⟩
              simp only [List.replicate]
              (refine wpS_t 0 _ (by exact gE rfl) (by kernel_rfl) (by intro _ _ _ h; exact h) (Or.inl ⟨by rfl, (by intro _ h; (try dsimp only at h); go_simp; first | done | with_reducible rfl)⟩) (by assumption) ?_; (try simp only [Act.put, zs0, zs1, zs2])); (refine wpS_t 1 _ (by exact gE rfl) (by kernel_rfl) (by intro _ _ _ h; exact h) (Or.inl ⟨by rfl, (by intro _ h; (try dsimp only at h); go_simp; first | done | with_reducible rfl)⟩) (by assumption) ?_; (try simp only [Act.put, zs0, zs1, zs2])); (refine wpS_t 2 _ (by exact gE rfl) (by kernel_rfl) (by intro _ _ _ h; exact h) (Or.inl ⟨by rfl, (by intro _ h; (try dsimp only at h); go_simp; first | done | with_reducible rfl)⟩) (by assumption) ?_; (try simp only [Act.put, zs0, zs1, zs2])); (refine wpS_t 3 _ (by exact gE rfl) (by kernel_rfl) (by intro _ _ _ h; exact h) (Or.inl ⟨by rfl, (by intro _ h; (try dsimp only at h); go_simp; first | done | with_reducible rfl)⟩) (by assumption) ?_; (try simp only [Act.put, zs0, zs1, zs2])); (refine wpS_t 4 _ (by exact gE rfl) (by kernel_rfl) (by intro _ _ _ h; exact h) (Or.inl ⟨by rfl, (by intro _ h; (try dsimp only at h); go_simp; first | done | with_reducible rfl)⟩) (by assumption) ?_; (try simp only [Act.put, zs0, zs1, zs2])); (refine wpS_t 6 _ (by exact gE rfl) (by kernel_rfl) (by intro _ _ _ h; exact h) (Or.inl ⟨by rfl, (by intro _ h; (try dsimp only at h); go_simp; first | done | with_reducible rfl)⟩) (by assumption) ?_; (try simp only [Act.put, zs0, zs1, zs2])); (refine wpS_t 7 _ (by exact gE rfl) (by kernel_rfl) (by intro _ _ _ h; exact h) (Or.inl ⟨by rfl, (by intro _ h; (try dsimp only at h); go_simp; first | done | with_reducible rfl)⟩) (by assumption) ?_; (try simp only [Act.put, zs0, zs1, zs2])); (refine wpS_t 8 _ (by exact gE rfl) (by kernel_rfl) (by intro _ _ _ h; exact h) (Or.inl ⟨by rfl, (by intro _ h; (try dsimp only at h); go_simp; first | done | with_reducible rfl)⟩) (by assumption) ?_; (try simp only [Act.put, zs0, zs1, zs2])); (refine wpS_t 9 _ (by exact gE rfl) (by kernel_rfl) (by intro _ _ _ h; exact h) (Or.inl ⟨by rfl, (by intro _ h; (try dsimp only at h); go_simp; first | done | with_reducible rfl)⟩) (by assumption) ?_; (try simp only [Act.put, zs0, zs1, zs2])); (refine wpS_t 10 _ (by exact gE rfl) (by kernel_rfl) (by intro _ _ _ h; exact h) (Or.inl ⟨by rfl, (by intro _ h; (try dsimp only at h); go_simp; first | done | with_reducible rfl)⟩) (by assumption) ?_; (try simp only [Act.put, zs0, zs1, zs2]))
              obtain ⟨w1, hw1⟩ : ∃ w1, w1 = wo.drew.alloc (.cells #[] 5) := ⟨_, rfl⟩
              have b1 : Below wo.heap.size wo w1 := by rw [hw1]; exact ((Below.refl _ _).drew).alloc (Nat.le_refl _) _
              have N1 : Blk w1 wo.heap.size 5 [] := by rw [hw1]; exact Blk.new wo.drew 5 #[] [] rfl
              have hC1 := hC.below b1 (Nat.le_refl _)
              have e1 : (fun y : World => y.cell? ⟨bb, jj * 2 + 1, none⟩ = some (.slice Ak 52 ck)) w1 := kept_cell b1 e0 hbb
              (refine wpS_one (i := 5) (by exact gE rfl) (by kernel_rfl) (by rfl) ?_; (refine wp_buildEmpty 23 (by rfl) Tryd.underlying23 ?_; rw [← hw1]; refine ⟨⟨hC1.blk.cell rfl, e1⟩, ?_⟩); (try simp only [Act.put, zs0, zs1, zs2]))
              have hHeld1 : w1.cell? ⟨bc, 4, none⟩ = some (.slice Ax nx cx) ∧ (fun y : World => y.cell? ⟨bb, jj * 2 + 1, none⟩ = some (.slice Ak 52 ck)) w1 := ⟨hC1.blk.cell rfl, e1⟩
              have z1 := N1.lt
              (refine wpS_one (i := 11) (by exact gE rfl) (by kernel_rfl) (by rfl) ?_; (refine wp_append_bs (.tmp 113) (.tmp 118) (by rfl) 0 0 52 ck (by rfl) (by rfl) rfl hl (ow_empty N1 (Nat.le_refl _)) (hBk.below b1 (Nat.le_refl _)) (by omega) (Nat.le_of_lt z1) ?_; intro A2 c2 w2 O2' b2'; have b2 : Below wo.heap.size wo w2 := b1.trans b2'; have hC2 := hC.below b2 (Nat.le_refl _); have e2 : (fun y : World => y.cell? ⟨bb, jj * 2 + 1, none⟩ = some (.slice Ak 52 ck)) w2 := kept_cell b2 e0 hbb; refine ⟨⟨hC2.blk.cell rfl, e2⟩, ?_⟩); (try simp only [Act.put, zs0, zs1, zs2]))
              have O2 : Ow w2 wo.heap.size A2 c2 l := by simpa using O2'
              obtain ⟨gk, rfl, hgk1, hgk2⟩ : ∃ gk, A2 = some ⟨gk, 0, none⟩ ∧ wo.heap.size ≤ gk ∧ gk < w2.heap.size := by
                rcases O2.form with ⟨_, e, _⟩ | ⟨g, q1, q2, q3⟩
                · rw [e] at hl; cases hl
                · exact ⟨g, q1, q2, q3⟩
              have hHeld2 : w2.cell? ⟨bc, 4, none⟩ = some (.slice Ax nx cx) ∧ (fun y : World => y.cell? ⟨bb, jj * 2 + 1, none⟩ = some (.slice Ak 52 ck)) w2 := ⟨hC2.blk.cell rfl, e2⟩
              obtain ⟨w3, hw3⟩ : ∃ w3, w3 = w2.alloc (.cells #[.slice (some ⟨gk, 0, none⟩) 52 c2] 23) := ⟨_, rfl⟩
              have b3 : Below w2.heap.size w2 w3 := by rw [hw3]; exact (Below.refl _ _).alloc (Nat.le_refl _) _
              have N3 : Blk w3 w2.heap.size 23 [.slice (some ⟨gk, 0, none⟩) 52 c2] := by rw [hw3]; exact Blk.new w2 _ _ _ rfl
              have hC3 := hC2.below b3 (Nat.le_refl _)
              have O3 := O2.below b3 (Nat.le_refl _)
              have z3 := N3.lt
              have b03 : Below wo.heap.size wo w3 := b2.trans (b3.mono b2.size)
              have e3 : (fun y : World => y.cell? ⟨bb, jj * 2 + 1, none⟩ = some (.slice Ak 52 ck)) w3 := kept_cell b03 e0 hbb
              (refine wpS_one (i := 12) (by exact gE rfl) (by kernel_rfl) (by rfl) ?_; (go_simp; rw [← hw3]; refine ⟨⟨hC3.blk.cell rfl, e3⟩, ?_⟩); (try simp only [Act.put, zs0, zs1, zs2]))
              have hb3 : bc ∉ fp cx g1x := fun hm => by
                obtain ⟨hc, e⟩ := fp_mem hm
                exact (hC3.cs.lt hc (by omega)).2 (by rw [← e]; simp)
              have hbf : bb ∉ fp cx g1x := fun hm => hbg1 (fp_mem hm).2
              (refine wpS_one (i := 13) (by exact gE rfl) (by kernel_rfl) (by rfl) ?_; (refine wp_append_rw 51 23 (.slice none 0 0) 24 (.tmp 112) (.tmp 120) (by rfl) Tryd.underlying51 infoSl (by rfl) (by omega) (by rfl) hC3.cs ⟨w2.heap.size, 0, none⟩ 1 1 [.slice (some ⟨gk, 0, none⟩) 52 c2] (by rfl) rfl (by omega) (cells2_of N3) (by simp [Value.oneCell']) (by omega) (by omega) (by have := hC3.blk.lt; have := hC3.lt2; simp; omega) ?_; intro g4 A4 c4 w4 R4 K4 G4 L4; refine ⟨⟨(K4.blk hC3.blk hb3).cell rfl, (World.cell?_of_block (K4.block bb (by have := b03.size; omega) hbf)).trans e3⟩, ?_⟩); (try simp only [Act.put, zs0, zs1, zs2]))
              have J4 := K4.blk hC3.blk hb3
              obtain ⟨w5, hw5⟩ : ∃ w5, w5 = w4.setCell ⟨bc, 4, none⟩ (.slice A4 (nx + 1) c4) := ⟨_, rfl⟩
              have hHeld4 : w4.cell? ⟨bc, 4, none⟩ = some (.slice Ax nx cx) ∧ (fun y : World => y.cell? ⟨bb, jj * 2 + 1, none⟩ = some (.slice Ak 52 ck)) w4 := ⟨J4.cell rfl, (World.cell?_of_block (K4.block bb (by have := b03.size; omega) hbf)).trans e3⟩
              (refine wpS_one (i := 14) (by exact gE rfl) (by kernel_rfl) (by rfl) ?_; (go_simp; (try refine ⟨hHeld4, ?_⟩)); (try simp only [Act.put, zs0, zs1, zs2])); (refine wpS_one (i := 15) (by exact gE rfl) (by kernel_rfl) (by rfl) ?_; (go_simp; (try refine ⟨hHeld4, ?_⟩)); (try simp only [Act.put, zs0, zs1, zs2]))
              (refine wpS_st (i := 16) (by exact gE rfl) (by kernel_rfl) (by rfl) (by kernel_rfl) ?_; (refine wp_storef1 51 (.tmp 123) (.tmp 121) (by rfl) bc 4 (by rfl) (.slice A4 (nx + 1) c4) (by rfl) (by rfl) (by simp [Value.oneCell']) 107 _ J4 (show 4 < 7 by omega) sizeSls ?_; rw [← hw5]); (try simp only [Act.put, zs0, zs1, zs2]))
              refine wpS_done (by kernel_rfl) ?_ _
              obtain ⟨hC5, hK5, z5⟩ := hC3.push (i := 4) (u := (gk, c2, l)) (rcF_set4 _ _ _ _ _) (O3.wide (by have := hC.lob; have := hC.blk.lt; show lo ≤ wo.heap.size; omega)) hl (by have := hC.blk.lt; have := hC.lt1; have := hC.lt2; show gk ∉ _; simp; omega) (by show Rw w4 1 g4 [bc, g9] A4 (nx + 1) c4 (Tx.map ckV ++ [ckV (gk, c2, l)]); unfold ckV; rw [hl]; exact R4) K4 G4 L4 hw5
              have K3 := hKr.belowS b03
              have K5 : Kp w10 [bc, g1] w5 := kp_trans2 K3 hK5 (fun q hq => by
                have : q = bc ∨ q = g1x := by simpa using hq
                rcases this with rfl | rfl
                · exact .inr (by simp)
                · rcases hgx with e | e
                  · exact .inr (by rw [e]; simp)
                  · exact .inl e)
              have HT' : Hid ((Tx ++ [(gk, c2, l)]).map (fun t : CkT => t.2.2) = ckN (T.map fun t : CkT => t.2.2) (frs (L.take (jj + 1)))) := by show _ = _; rw [List.map_append]; exact HT.out
              have hTw' : Hid (∀ v ∈ Tx ++ [(gk, c2, l)], v ∈ T ∨ w.heap.size < v.1) := fun v hv => by
                rw [List.mem_append] at hv
                rcases hv with hv | hv
                · exact hTw.out v hv
                · rw [List.mem_singleton.1 hv]; exact .inr (by show w.heap.size < gk; omega)
              have hg4 : g4 = g1 ∨ w10.heap.size ≤ g4 := by
                have := K3.size
                rcases G4 with e | e
                · rcases hgx with e' | e'
                  · exact .inl (e.trans e')
                  · exact .inr (by omega)
                · exact .inr (by omega)
              clear hC hC1 hC2 hC3 hK5 O2 O3 b1 b2 b3 b03 J4 K4 R4 N1 N3 hBk hHeld hHeld1 hHeld2 hHeld4 HT hw1 hw3 hw5 K3 Jo To Xo
              go_wp2_with fail
              exact ⟨⟨jj + 1, by omega, by go_num, g4, _, A4, nx + 1, c4, hC5, HT', K5, hg4, hTw'⟩, by simp [intOf]; omega⟩
            · have hd8 : decide ((nx : Int) < 8) = false := decide_eq_false (by omega)
              have HT : Hid (Tx.map (fun t : CkT => t.2.2) = ckN (T.map fun t : CkT => t.2.2) (frs (L.take (jj + 1)))) := by
                show _ = _
                rw [hfy]
                exact ckN_more hTx.out (by rw [List.length_map, hTl']; omega)
              clear hfy hTx hn8'
              go_wp2
              exact ⟨⟨jj + 1, by omega, by go_num, g1x, Tx, Ax, nx, cx, hC, HT, hKr, hgx, hTw⟩, by simp [intOf]; omega⟩
          · have hK7' : (K == 772) = false := by simpa using hK7
            have HT : Hid (Tx.map (fun t : CkT => t.2.2) = ckN (T.map fun t : CkT => t.2.2) (frs (L.take (jj + 1)))) := by
              show _ = _
              rw [hfn hK7]
              exact hTx.out
            clear hfy hfn hTx hK7 h52
            go_wp2
            exact ⟨⟨jj + 1, by omega, by go_num, g1x, Tx, Ax, nx, cx, hC, HT, hKr, hgx, hTw⟩, by simp [intOf]; omega⟩
        · obtain rfl : jj = j := by omega
          have hLt : L.take jj = L := List.take_of_length_le (by omega)
          have hT' := hTx.out
          rw [hLt] at hT'
          go_wp2_with (first
            | (refine wpl_load (by rfl) 27 _ (by rfl) w2.heap.size (by rfl) 27 _ To _ Tryd.underlying27 rfl _ sizeNtp (by rfl) ?_)
            | (refine wpl_store (by rfl) 27 _ _ (by rfl) w.heap.size (by rfl) _ (by rfl) _ rfl 27 _ Jo (by rfl) _ sizeNtp (by rfl) (by simp [Value.oneCell']) ?_; intro w11 J11 s11 g11))
          refine bodyPost_ret (res_cxy Tryd.results86 (by rfl) J11 Tryd.underlying27 rfl sizeNtp (by rfl) (by rfl) (by rfl)) rfl ?_
          have zwj : w.heap.size ≠ bc := by omega
          have hC11 := hC.kp (Kp.of_but g11 (.inr (List.mem_singleton_self _))) (by simp; omega) (by simp; rcases hgx with e | e <;> omega) (by simp; omega) (fun v hv => by
            rw [List.mem_append] at hv
            rcases hv with hv | hv
            · have q1 : v.1 ≠ w.heap.size := by
                rcases hTw.out v hv with q | q
                · have := hTlt v q; omega
                · omega
              simpa using q1
            · have := hUlt v hv
              simp
              omega)
          refine .inr ⟨Hfr.out, g1x, g9, Tx, U', Ax, nx, cx, some ⟨g9, o9, none⟩, c9, P1, jj, q1, rfl, hL1, ((Xo.but g11 (by omega)).wide (by omega)), hC11, hT', HI'.out, ?_, ?_, hx10, fun v hv => (hTw.out v hv).imp (fun q => q) (fun q => Nat.le_of_lt q), HUin.out⟩
          · exact (kp_trans2 K10 hKr (fun q hq => .inr (by
              have : q = bc ∨ q = g1 := by simpa using hq
              rcases this with rfl | rfl <;> simp))).but g11 (.inl (Nat.le_refl _))
          · rcases hgx with e | e
            · exact .inl e
            · exact .inr (by omega)
end Go.Proofs.YtachhbbofemfdaaDoor
namespace Go.Proofs.YtachhbbofemfdaaDoor
open Go.RowKit
set_option linter.unusedSimpArgs false
set_option linter.unusedVariables false
set_option maxRecDepth 100000
/-- y is x with new blocks, and writes to blocks of owner a alone; d is c with more blocks -/
structure Gw (a : Nat) (x : World) (c : Nat → Nat) (y : World) (d : Nat → Nat) : Prop where
  os : y.os = x.os
  tape : y.tape = x.tape
  output : y.output = x.output
  size : x.heap.size ≤ y.heap.size
  block : ∀ b, b < x.heap.size → c b ≠ a → y.heap[b]? = x.heap[b]?
  col : ∀ b, b < x.heap.size → d b = c b
def oth (w : World) (a : Nat) (c : Nat → Nat) : List Nat := (List.range w.heap.size).filter fun b => c b == a
theorem oth_not {w : World} {a : Nat} {c : Nat → Nat} {b : Nat} (h : c b ≠ a) : b ∉ oth w a c := fun hm => by
  unfold oth at hm
  rw [List.mem_filter] at hm
  exact h (by simpa using hm.2)
/-- the colouring with the new blocks given to a -/
def rcl (x : World) (a : Nat) (c : Nat → Nat) : Nat → Nat := fun b => if b < x.heap.size then c b else a
section
variable {x y z : World} {a b : Nat} {c d e : Nat → Nat} {G : List Nat}
theorem rcl_old (h : b < x.heap.size) : rcl x a c b = c b := if_pos h
theorem rcl_new (h : x.heap.size ≤ b) : rcl x a c b = a := if_neg (by omega)
theorem Gw.kp (h : Gw a x c y d) : Kp x (oth x a c) y := ⟨h.os, h.tape, h.output, h.size, fun b hb hn => h.block b hb fun e => hn (by
  unfold oth
  rw [List.mem_filter]
  exact ⟨List.mem_range.2 hb, by simpa using e⟩)⟩
theorem Gw.of_kp (h : Kp x G y) (hG : ∀ g ∈ G, x.heap.size ≤ g ∨ c g = a) (hd : ∀ b, b < x.heap.size → d b = c b) : Gw a x c y d :=
  ⟨h.os, h.tape, h.output, h.size, fun b hb hn => h.block b hb fun hm => by
    rcases hG b hm with q | q
    · omega
    · exact hn q, hd⟩
theorem Gw.of_below (h : Below x.heap.size x y) (hd : ∀ b, b < x.heap.size → d b = c b) : Gw a x c y d := Gw.of_kp (Kp.of_below (G := []) h) (by simp) hd
theorem Gw.of_but {g : Nat} (h : But g x y) (hg : x.heap.size ≤ g ∨ c g = a) : Gw a x c y c := Gw.of_kp (Kp.of_but (G := [g]) h (.inr (by simp))) (fun k hk => by rw [List.mem_singleton.1 hk]; exact hg) (fun _ _ => rfl)
theorem Gw.refl (a : Nat) (x : World) (c : Nat → Nat) : Gw a x c x c := ⟨rfl, rfl, rfl, Nat.le_refl _, fun _ _ _ => rfl, fun _ _ => rfl⟩
theorem Gw.trans (h : Gw a x c y d) (k : Gw a y d z e) : Gw a x c z e :=
  ⟨k.os.trans h.os, k.tape.trans h.tape, k.output.trans h.output, Nat.le_trans h.size k.size,
    fun b hb hn => (k.block b (Nat.lt_of_lt_of_le hb h.size) (by rw [h.col b hb]; exact hn)).trans (h.block b hb hn), fun b hb => (k.col b (Nat.lt_of_lt_of_le hb h.size)).trans (h.col b hb)⟩
theorem Gw.blk {t : TypeId} {cs : List Value} (h : Gw a x c y d) (hB : Blk x b t cs) (hc : c b ≠ a) : Blk y b t cs := h.kp.blk hB (oth_not hc)
theorem Gw.colN (h : Gw a x c y d) (hb : b < x.heap.size) {n : Nat} (hc : c b = n) : d b = n := (h.col b hb).trans hc
/-- bytes in a block of another owner stay -/
theorem Gw.bs {lo hi : Nat} {A : Option Addr} {l : List Int} (h : Gw a x c y d) (hB : Bs x lo hi A l) (hh : hi ≤ x.heap.size) (hA : ∀ g o s, A = some ⟨g, o, s⟩ → 0 < l.length → c g ≠ a) : Bs y lo hi A l :=
  ⟨hB.1, fun hl => by
    obtain ⟨b, o, e, h1, h2, h3⟩ := hB.2 hl
    exact ⟨b, o, e, h1, h2, fun k hk => (World.cell?_of_block (h.block b (by omega) (hA b o _ e hl))).trans (h3 k hk)⟩⟩
end
theorem Ck.gw {x y : World} {a lo : Nat} {c d : Nat → Nat} {G G' : List Nat} {t : CkT} (h : Ck x lo G t) (g : Gw a x c y d) (hc : c t.1 ≠ a) (h2 : t.1 ∉ G') : Ck y lo G' t := h.kp g.kp (oth_not hc) h2
/-! ### the program's client: owner 1 -/
def CCl (w : World) (c : Nat → Nat) (lo b : Nat) (k0 k1 k2 k3 : Int) (CK : List (List Int)) (N : Int) (I : List (List Int)) : Prop :=
  ∃ (g1 g2 : Nat) (T : List CkT) (A : Option Addr) (n cc : Nat) (A2 : Option Addr) (n2 c2 : Nat), T.map (fun t : CkT => t.2.2) = CK ∧ ClX w lo b g1 g2 k0 k1 k2 k3 T N I A n cc A2 n2 c2 ∧ (c b = 1 ∧ c g1 = 1 ∧ c g2 = 1) ∧ ∀ t ∈ T, c t.1 = 1
section
variable {w w' : World} {c d : Nat → Nat} {lo b a : Nat} {k0 k1 k2 k3 N : Int} {CK I : List (List Int)}
theorem CCl.gw (h : CCl w c lo b k0 k1 k2 k3 CK N I) (g : Gw a w c w' d) (ha : a ≠ 1) : CCl w' d lo b k0 k1 k2 k3 CK N I := by
  obtain ⟨g1, g2, T, A, n, cc, A2, n2, c2, e, hC, ⟨q1, q2, q3⟩, q4⟩ := h
  exact ⟨g1, g2, T, A, n, cc, A2, n2, c2, e, hC.kp g.kp (oth_not (by omega)) (oth_not (by omega)) (oth_not (by omega)) (fun t ht => oth_not (by rw [q4 t ht]; omega)),
    ⟨g.colN hC.blk.lt q1, g.colN hC.lt1 q2, g.colN hC.lt2 q3⟩, fun t ht => g.colN (hC.ck t ht).1.lt.2 (q4 t ht)⟩
theorem CCl.lens (h : CCl w c lo b k0 k1 k2 k3 CK N I) : (∀ d ∈ CK, d.length = 52 ∧ Byt d) ∧ ∀ l ∈ I, l.length = 16 ∧ Byt l := by
  obtain ⟨g1, g2, T, A, n, cc, A2, n2, c2, rfl, h, _⟩ := h
  refine ⟨fun d hd => ?_, h.wt⟩
  obtain ⟨t, ht, rfl⟩ := List.mem_map.1 hd
  exact ⟨(h.ck t ht).2, (h.ck t ht).1.1.1⟩
/-- a client all of whose blocks are new -/
theorem CCl.of {G : List Nat} {w0 : World} (h : Cli w lo b G k0 k1 k2 k3 CK N I) (hd : ∀ x, lo ≤ x → d x = 1) : CCl w d lo b k0 k1 k2 k3 CK N I := by
  obtain ⟨g1, g2, T, A, n, cc, A2, n2, c2, _, e, hC⟩ := h
  exact ⟨g1, g2, T, A, n, cc, A2, n2, c2, e, hC, ⟨hd _ hC.lob, hd _ hC.lo1, hd _ hC.lo2⟩, fun t ht => hd _ (hC.ck t ht).1.lt.1⟩
theorem qreq {ck : List Int} (l v m st po pr rd rp id ref org rec xmt nonce : Int) (h : CCl w c lo b k0 k1 k2 k3 (ck :: CK) N I) (hE : nchk l v m st po pr = 0) (h6 : 0 ≤ rd ∧ rd ≤ 4294967295) (h7 : 0 ≤ rp ∧ rp ≤ 4294967295) (h8 : 0 ≤ id ∧ id ≤ 4294967295) (h9 : 0 ≤ ref ∧ ref ≤ 18446744073709551615) (h10 : 0 ≤ org ∧ org ≤ 18446744073709551615) (h11 : 0 ≤ rec ∧ rec ≤ 18446744073709551615) (h12 : 0 ≤ xmt ∧ xmt ≤ 18446744073709551615)
    (hk0 : U64 k0) (hk1 : U64 k1) (hN : 0 ≤ N ∧ N < 18446744073709551615) (hno : U64 nonce) (hR : Rnd w) (hlo : 0 < lo) (hn8 : CK.length + 1 ≤ 8) (hn28 : I.length ≤ 8) :
    Calls Tryd.prog 21 #[.pointer (some ⟨b, 0, none⟩), ntp l v m st po pr rd rp id ref org rec xmt, .int .u64 nonce] w fun e w' => ∃ r c' Nn d, e = .returned (.tuple #[.slice (some ⟨r, 0, none⟩) Nn c', .int .i64 0]) ∧ (msgB l v m st po pr rd rp id ref org rec xmt (rqF (N + 1) nonce ck) k0 k1).length = Nn ∧
      Ow w' w.heap.size (some ⟨r, 0, none⟩) c' (msgB l v m st po pr rd rp id ref org rec xmt (rqF (N + 1) nonce ck) k0 k1) ∧ d r = 3 ∧ CCl w' d lo b k0 k1 k2 k3 CK (N + 1) (wtN I (idB (N + 1) nonce)) ∧ Gw 1 w c w' d := by
  obtain ⟨g1, g2, T, A, n, cc, A2, n2, c2, e2, hC, ⟨q1, q2, q3⟩, q4⟩ := h
  match T, e2 with
  | t0 :: T, e2 =>
    simp only [List.map_cons, List.cons.injEq] at e2
    obtain ⟨rfl, rfl⟩ := e2
    have hn : n = T.length + 1 := by have := hC.tn; simpa using this.symm
    rw [List.length_map] at hn8
    refine (req_ok l v m st po pr rd rp id ref org rec xmt nonce w hC hE h6 h7 h8 h9 h10 h11 h12 hk0 hk1 hN hno hR hlo (by omega) (by rw [← hC.wn]; exact hn28)).mono fun e w' ⟨r, c', Nn, g2', A', c1', A2', n2', c2', z1, z2, z3, z4, z5, z6⟩ => ?_
    obtain ⟨hO, hr⟩ := z3
    have hr' : r ≠ b ∧ r ≠ g1 ∧ r ≠ g2' := by simpa using hr
    have hrl := hO.blt r rfl
    obtain ⟨d, hd⟩ : ∃ d : Nat → Nat, d = fun x => if x < w.heap.size then c x else if x = r then 3 else 1 := ⟨_, rfl⟩
    have dold : ∀ x, x < w.heap.size → d x = c x := fun x hx => by rw [hd]; exact if_pos hx
    have dr : d r = 3 := by rw [hd]; show (if r < w.heap.size then _ else _) = _; rw [if_neg (by omega), if_pos rfl]
    have dnew : ∀ x, w.heap.size ≤ x → x ≠ r → d x = 1 := fun x h1 h2 => by rw [hd]; show (if x < w.heap.size then _ else _) = _; rw [if_neg (by omega), if_neg h2]
    refine ⟨r, c', Nn, d, z1, z2, hO, dr, ⟨g1, g2', T, A', n - 1, c1', A2', n2', c2', rfl, z4, ⟨(dold _ hC.blk.lt).trans q1, (dold _ hC.lt1).trans q2, ?_⟩, fun t ht => (dold _ (hC.ck t (List.mem_cons_of_mem _ ht)).1.lt.2).trans (q4 t (List.mem_cons_of_mem _ ht))⟩,
      Gw.of_kp z5 (fun g hg => .inr (by
        have : g = b ∨ g = g1 ∨ g = g2 := by simpa using hg
        rcases this with rfl | rfl | rfl <;> assumption)) dold⟩
    rcases z6 with z6 | z6
    · rw [z6]; exact (dold _ hC.lt2).trans q3
    · exact dnew _ z6 (Ne.symm hr'.2.2)
theorem qreq_empty (l v m st po pr rd rp id ref org rec xmt nonce : Int) (h : CCl w c lo b k0 k1 k2 k3 [] N I) (hE : nchk l v m st po pr = 0) :
    Calls Tryd.prog 21 #[.pointer (some ⟨b, 0, none⟩), ntp l v m st po pr rd rp id ref org rec xmt, .int .u64 nonce] w fun e w' => e = .returned (.tuple #[.slice none 0 0, .int .i64 14]) ∧ Below w.heap.size w w' := by
  obtain ⟨g1, g2, T, A, n, cc, A2, n2, c2, e2, h, _⟩ := h
  exact creq_empty l v m st po pr rd rp id ref org rec xmt nonce ⟨g1, g2, T, A, n, cc, A2, n2, c2, rfl, e2, h⟩ hE
theorem qcount (h : CCl w c lo b k0 k1 k2 k3 CK N I) : Calls Tryd.prog 23 #[.pointer (some ⟨b, 0, none⟩)] w fun e w' => e = .returned (.int .i64 CK.length) ∧ w = w' := by
  obtain ⟨g1, g2, T, A, n, cc, A2, n2, c2, e2, h, _⟩ := h
  exact ccount ⟨g1, g2, T, A, n, cc, A2, n2, c2, rfl, e2, h⟩
/-- Accept, whatever it answers -/
theorem qacc (A : Option Addr) (n ca : Nat) (R : List Int) (h : CCl w c lo b k0 k1 k2 k3 CK N I) (hk2 : U64 k2) (hk3 : U64 k3) (hR : Rnd w) (hn8 : CK.length ≤ 8) (hn28 : I.length ≤ 8)
    (hn : R.length = n) (hB : Bs w 0 w.heap.size A R) (hnc : n ≤ ca) (hc : ca ≤ 9223372036854775807) (hm : n ≤ 1000000) :
    Calls Tryd.prog 24 #[.pointer (some ⟨b, 0, none⟩), .slice A n ca] w fun e w' => ∃ P1 p1 q1, e = .returned (.tuple #[accV k2 k3 I R, .slice P1 p1 q1, .int .i64 (accE k2 k3 I R)]) ∧ (accL k2 k3 I R).length = p1 ∧ XO w' w.heap.size P1 q1 (accL k2 k3 I R) ∧
      CCl w' (rcl w 1 c) lo b k0 k1 k2 k3 (accC k2 k3 I R CK) N (accI k2 k3 I R) ∧ Gw 1 w c w' (rcl w 1 c) := by
  obtain ⟨l, v, m, st, po, pr, rd, rp, id, ref, org, rec, xmt, hV, _⟩ := dcV_form R
  have key : accE k2 k3 I R ≠ 0 → ∀ (e : Ending) (w' : World), e = .returned (.tuple #[ntp0, .slice none 0 0, .int .i64 (accE k2 k3 I R)]) → Below w.heap.size w w' → ∃ P1 p1 q1, e = .returned (.tuple #[accV k2 k3 I R, .slice P1 p1 q1, .int .i64 (accE k2 k3 I R)]) ∧ (accL k2 k3 I R).length = p1 ∧ XO w' w.heap.size P1 q1 (accL k2 k3 I R) ∧
      CCl w' (rcl w 1 c) lo b k0 k1 k2 k3 (accC k2 k3 I R CK) N (accI k2 k3 I R) ∧ Gw 1 w c w' (rcl w 1 c) := fun hne e w' he hb => by
    unfold accV accL accC accI
    rw [if_neg hne, if_neg hne, if_neg hne, if_neg hne]
    exact ⟨none, 0, 0, he, rfl, XO.nil _ _, h.gw (a := 0) (Gw.of_below hb (fun _ q => rcl_old q)) (by omega), Gw.of_below hb (fun _ q => rcl_old q)⟩
  obtain ⟨g1, g2, T, Ac, nc, cc, A2, n2, c2, hT, hC, ⟨q1, q2, q3⟩, q4⟩ := h
  have hn8' : nc ≤ 8 := by rw [← hC.tn, ← List.length_map (fun t : CkT => t.2.2), hT]; exact hn8
  have hn28' : n2 ≤ 8 := by rw [← hC.wn]; exact hn28
  rcases accE_cases k2 k3 I R with ⟨h1, h2⟩ | ⟨h1, h2, h3⟩ | ⟨h1, h2, h3, h4⟩ | ⟨h1, h2, ⟨k, hk, h3⟩, h4, h5⟩ | ⟨h1, h2, ⟨k, hk, h3⟩, h4, h5⟩
  · refine (acc_err b A n ca R w hn hB hnc hc hm h1).mono fun e w' ⟨q1, q2⟩ => key (by rw [h2]; exact h1) e w' (by rw [h2]; exact q1) q2
  · exact (acc_tag w hC hk2 hk3 hR hn8' hn28' A n ca R hn hB hnc hc hm h1 l v m st po pr rd rp id ref org rec xmt hV h2).mono fun e w' ⟨q1, q2⟩ => key (by rw [h3]; decide) e w' (by rw [h3]; exact q1) q2
  · exact (acc_none w hC hk2 hk3 hR hn8' hn28' A n ca R hn hB hnc hc hm h1 l v m st po pr rd rp id ref org rec xmt hV h2 h3).mono fun e w' ⟨q1, q2⟩ => key (by rw [h4]; decide) e w' (by rw [h4]; exact q1) q2
  · have hk' := hk
    rw [hC.wn] at hk'
    refine (acc_some2 w hC hk2 hk3 hR hn8' hn28' A n ca R hn hB hnc hc hm h1 l v m st po pr rd rp id ref org rec xmt hV h2 k hk' h3).mono fun e w' hh => ?_
    rcases hh with ⟨_, q1, q2⟩ | ⟨q1, _⟩
    · exact key (by rw [h5]; decide) e w' (by rw [h5]; exact q1) q2
    · rw [h4] at q1; cases q1
  · have hk' := hk
    rw [hC.wn] at hk'
    refine (acc_some2 w hC hk2 hk3 hR hn8' hn28' A n ca R hn hB hnc hc hm h1 l v m st po pr rd rp id ref org rec xmt hV h2 k hk' h3).mono fun e w' hh => ?_
    rcases hh with ⟨q1, _⟩ | ⟨_, g1', T', Ac', nc', cc', c2c', P1, p1, p2, z1, z2, z3, z4, z5, z6, z7, z8⟩
    · rw [h4] at q1; cases q1
    · unfold accV accL accC accI
      rw [h5]
      rw [if_pos rfl, if_pos rfl, if_pos rfl, if_pos rfl, hV, h3]
      refine ⟨P1, p1, p2, z1, z2, z3, ⟨g1', g2, T', Ac', nc', cc', A2, n2 - 1, c2c', by rw [← hT]; exact z5, z4, ⟨(rcl_old hC.blk.lt).trans q1, ?_, (rcl_old hC.lt2).trans q3⟩, fun t ht => ?_⟩,
        Gw.of_kp z6 (fun g hg => .inr (by
          have : g = b ∨ g = g1 ∨ g = g2 := by simpa using hg
          rcases this with rfl | rfl | rfl <;> assumption)) (fun _ q => rcl_old q)⟩
      · rcases z7 with z7 | z7
        · rw [z7]; exact (rcl_old hC.lt1).trans q2
        · exact rcl_new z7
      · rcases z8 t ht with q | q
        · exact (rcl_old (hC.ck t q).1.lt.2).trans (q4 t q)
        · exact rcl_new q
end
/-! ### the reference's client: owner 2 -/
def CRl (w : World) (c : Nat → Nat) (lo b : Nat) (k0 k1 k2 k3 : Int) (CK : List (List Int)) (N : Int) (I : List (List Int)) : Prop :=
  ∃ (g1 g2 : Nat) (T U : List CkT) (A : Option Addr) (n cc : Nat) (A2 : Option Addr) (n2 c2 : Nat), T.map (fun t : CkT => t.2.2) = CK ∧ U.map (fun t : CkT => t.2.2) = I ∧ RcX w lo b g1 g2 k0 k1 k2 k3 T N U A n cc A2 n2 c2 ∧ (c b = 2 ∧ c g1 = 2 ∧ c g2 = 2) ∧ (∀ t ∈ T, c t.1 = 2) ∧ ∀ t ∈ U, c t.1 = 2
section
variable {w w' : World} {c d : Nat → Nat} {lo b a : Nat} {k0 k1 k2 k3 N : Int} {CK I : List (List Int)}
theorem CRl.gw (h : CRl w c lo b k0 k1 k2 k3 CK N I) (g : Gw a w c w' d) (ha : a ≠ 2) : CRl w' d lo b k0 k1 k2 k3 CK N I := by
  obtain ⟨g1, g2, T, U, A, n, cc, A2, n2, c2, e, e', hC, ⟨q1, q2, q3⟩, q4, q5⟩ := h
  exact ⟨g1, g2, T, U, A, n, cc, A2, n2, c2, e, e', hC.kp g.kp (oth_not (by omega)) (oth_not (by omega)) (oth_not (by omega)) (fun t ht => oth_not (by
      rw [List.mem_append] at ht
      rcases ht with ht | ht
      · rw [q4 t ht]; omega
      · rw [q5 t ht]; omega)),
    ⟨g.colN hC.blk.lt q1, g.colN hC.lt1 q2, g.colN hC.lt2 q3⟩, fun t ht => g.colN (hC.ck t ht).1.lt.2 (q4 t ht), fun t ht => g.colN (hC.wk t ht).1.lt.2 (q5 t ht)⟩
theorem CRl.of {G : List Nat} (h : Rcl w lo b G k0 k1 k2 k3 CK N I) (hd : ∀ x, lo ≤ x → d x = 2) : CRl w d lo b k0 k1 k2 k3 CK N I := by
  obtain ⟨g1, g2, T, U, A, n, cc, A2, n2, c2, _, e, e', hC⟩ := h
  exact ⟨g1, g2, T, U, A, n, cc, A2, n2, c2, e, e', hC, ⟨hd _ hC.lob, hd _ hC.lo1, hd _ hC.lo2⟩, fun t ht => hd _ (hC.ck t ht).1.lt.1, fun t ht => hd _ (hC.wk t ht).1.lt.1⟩
theorem qrreq {ck : List Int} (l v m st po pr rd rp id ref org rec xmt nonce : Int) (h : CRl w c lo b k0 k1 k2 k3 (ck :: CK) N I) (hE : nchk l v m st po pr = 0) (h6 : 0 ≤ rd ∧ rd ≤ 4294967295) (h7 : 0 ≤ rp ∧ rp ≤ 4294967295) (h8 : 0 ≤ id ∧ id ≤ 4294967295) (h9 : 0 ≤ ref ∧ ref ≤ 18446744073709551615) (h10 : 0 ≤ org ∧ org ≤ 18446744073709551615) (h11 : 0 ≤ rec ∧ rec ≤ 18446744073709551615) (h12 : 0 ≤ xmt ∧ xmt ≤ 18446744073709551615)
    (hk0 : U64 k0) (hk1 : U64 k1) (hN : 0 ≤ N ∧ N < 9223372036854775807) (hno : U64 nonce) (hn8 : CK.length + 1 ≤ 8) (hn28 : I.length ≤ 8) :
    Calls Tryd.prog 53 #[.pointer (some ⟨b, 0, none⟩), ntp l v m st po pr rd rp id ref org rec xmt, .int .u64 nonce] w fun e w' => ∃ r c' Nn, e = .returned (.tuple #[.slice (some ⟨r, 0, none⟩) Nn c', .int .i64 0]) ∧ (msgB l v m st po pr rd rp id ref org rec xmt (rqF (N + 1) nonce ck) k0 k1).length = Nn ∧
      Ow w' w.heap.size (some ⟨r, 0, none⟩) c' (msgB l v m st po pr rd rp id ref org rec xmt (rqF (N + 1) nonce ck) k0 k1) ∧ CRl w' (rcl w 2 c) lo b k0 k1 k2 k3 CK (N + 1) (wtN I (idB (N + 1) nonce)) ∧ Gw 2 w c w' (rcl w 2 c) := by
  obtain ⟨g1, g2, T, U, A, n, cc, A2, n2, c2, e2, e3, hC, ⟨q1, q2, q3⟩, q4, q5⟩ := h
  match T, e2 with
  | t0 :: T, e2 =>
    simp only [List.map_cons, List.cons.injEq] at e2
    obtain ⟨rfl, rfl⟩ := e2
    subst e3
    rw [List.length_map] at hn8 hn28
    refine (rcreq2 l v m st po pr rd rp id ref org rec xmt nonce hC hE h6 h7 h8 h9 h10 h11 h12 hk0 hk1 hN hno hn8 (by rw [← hC.un]; exact hn28)).mono fun e w' ⟨r, c', Nn, g2', U', A', n', c1', A2', n2', c2', z1, z2, z3, z4, z5, z6, z7, z8⟩ => ?_
    refine ⟨r, c', Nn, z1, z2, z3.1, ⟨g1, g2', T, U', A', n', c1', A2', n2', c2', rfl, z5, z4, ⟨(rcl_old hC.blk.lt).trans q1, (rcl_old hC.lt1).trans q2, ?_⟩, fun t ht => (rcl_old (hC.ck t (List.mem_cons_of_mem _ ht)).1.lt.2).trans (q4 t (List.mem_cons_of_mem _ ht)), fun t ht => ?_⟩,
      Gw.of_kp z6 (fun g hg => .inr (by
        have : g = b ∨ g = g1 ∨ g = g2 := by simpa using hg
        rcases this with rfl | rfl | rfl <;> assumption)) (fun _ q => rcl_old q)⟩
    · rcases z7 with z7 | z7
      · rw [z7]; exact (rcl_old hC.lt2).trans q3
      · exact rcl_new z7
    · rcases z8 t ht with q | q
      · exact (rcl_old (hC.wk t q).1.lt.2).trans (q5 t q)
      · exact rcl_new q
theorem qrreq_empty (l v m st po pr rd rp id ref org rec xmt nonce : Int) (h : CRl w c lo b k0 k1 k2 k3 [] N I) (hE : nchk l v m st po pr = 0) :
    Calls Tryd.prog 53 #[.pointer (some ⟨b, 0, none⟩), ntp l v m st po pr rd rp id ref org rec xmt, .int .u64 nonce] w fun e w' => e = .returned (.tuple #[.slice none 0 0, .int .i64 14]) ∧ Below w.heap.size w w' := by
  obtain ⟨g1, g2, T, U, A, n, cc, A2, n2, c2, e2, e3, h, _⟩ := h
  exact rcreq_empty l v m st po pr rd rp id ref org rec xmt nonce ⟨g1, g2, T, U, A, n, cc, A2, n2, c2, rfl, e2, e3, h⟩ hE
theorem qrcount (h : CRl w c lo b k0 k1 k2 k3 CK N I) : Calls Tryd.prog 29 #[.pointer (some ⟨b, 0, none⟩)] w fun e w' => e = .returned (.int .i64 CK.length) ∧ w = w' := by
  obtain ⟨g1, g2, T, U, A, n, cc, A2, n2, c2, e2, e3, h, _⟩ := h
  exact rccount ⟨g1, g2, T, U, A, n, cc, A2, n2, c2, rfl, e2, e3, h⟩
theorem qracc (A : Option Addr) (n ca : Nat) (R : List Int) (h : CRl w c lo b k0 k1 k2 k3 CK N I) (hk2 : U64 k2) (hk3 : U64 k3) (hn8 : CK.length ≤ 8) (hn28 : I.length ≤ 8)
    (hn : R.length = n) (hB : Bs w 0 w.heap.size A R) (hnc : n ≤ ca) (hc : ca ≤ 9223372036854775807) (hm : n ≤ 1000000) :
    Calls Tryd.prog 86 #[.pointer (some ⟨b, 0, none⟩), .slice A n ca] w fun e w' => ∃ P1 p1 q1, e = .returned (.tuple #[accV k2 k3 I R, .slice P1 p1 q1, .int .i64 (accE k2 k3 I R)]) ∧ (accL k2 k3 I R).length = p1 ∧ XO w' w.heap.size P1 q1 (accL k2 k3 I R) ∧
      CRl w' (rcl w 2 c) lo b k0 k1 k2 k3 (accC k2 k3 I R CK) N (accI k2 k3 I R) ∧ Gw 2 w c w' (rcl w 2 c) := by
  obtain ⟨l, v, m, st, po, pr, rd, rp, id, ref, org, rec, xmt, hV, _⟩ := dcV_form R
  have key : accE k2 k3 I R ≠ 0 → ∀ (e : Ending) (w' : World), e = .returned (.tuple #[ntp0, .slice none 0 0, .int .i64 (accE k2 k3 I R)]) → Below w.heap.size w w' → ∃ P1 p1 q1, e = .returned (.tuple #[accV k2 k3 I R, .slice P1 p1 q1, .int .i64 (accE k2 k3 I R)]) ∧ (accL k2 k3 I R).length = p1 ∧ XO w' w.heap.size P1 q1 (accL k2 k3 I R) ∧
      CRl w' (rcl w 2 c) lo b k0 k1 k2 k3 (accC k2 k3 I R CK) N (accI k2 k3 I R) ∧ Gw 2 w c w' (rcl w 2 c) := fun hne e w' he hb => by
    unfold accV accL accC accI
    rw [if_neg hne, if_neg hne, if_neg hne, if_neg hne]
    exact ⟨none, 0, 0, he, rfl, XO.nil _ _, h.gw (a := 0) (Gw.of_below hb (fun _ q => rcl_old q)) (by omega), Gw.of_below hb (fun _ q => rcl_old q)⟩
  obtain ⟨g1, g2, T, U, Ac, nc, cc, A2, n2, c2, hT, hU, hC, ⟨q1, q2, q3⟩, q4, q5⟩ := h
  have hn8' : nc ≤ 8 := by rw [← hC.tn, ← List.length_map (fun t : CkT => t.2.2), hT]; exact hn8
  have hn28' : n2 ≤ 8 := by rw [← hC.un, ← List.length_map (fun t : CkT => t.2.2), hU]; exact hn28
  rcases accE_cases k2 k3 I R with ⟨h1, h2⟩ | ⟨h1, h2, h3⟩ | ⟨h1, h2, h3, h4⟩ | ⟨h1, h2, ⟨k, hk, h3⟩, h4, h5⟩ | ⟨h1, h2, ⟨k, hk, h3⟩, h4, h5⟩
  · refine (rcacc_err b A n ca R w hn hB hnc hc hm h1).mono fun e w' ⟨q1, q2⟩ => key (by rw [h2]; exact h1) e w' (by rw [h2]; exact q1) q2
  · exact (rcacc_tag w hC hk2 hk3 hn8' hn28' A n ca R hn hB hnc hc hm h1 l v m st po pr rd rp id ref org rec xmt hV h2).mono fun e w' ⟨q1, q2⟩ => key (by rw [h3]; decide) e w' (by rw [h3]; exact q1) q2
  · exact (rcacc_none w hC hk2 hk3 hn8' hn28' A n ca R hn hB hnc hc hm h1 l v m st po pr rd rp id ref org rec xmt hV h2 (by rw [hU]; exact h3)).mono fun e w' ⟨q1, q2⟩ => key (by rw [h4]; decide) e w' (by rw [h4]; exact q1) q2
  · have hk' : k < n2 := by rw [← hC.un, ← List.length_map (fun t : CkT => t.2.2), hU]; exact hk
    refine (rcacc_some w hC hk2 hk3 hn8' hn28' A n ca R hn hB hnc hc hm h1 l v m st po pr rd rp id ref org rec xmt hV h2 k hk' (by rw [hU]; exact h3)).mono fun e w' hh => ?_
    rcases hh with ⟨_, q1, q2⟩ | ⟨q1, _⟩
    · exact key (by rw [h5]; decide) e w' (by rw [h5]; exact q1) q2
    · rw [h4] at q1; cases q1
  · have hk' : k < n2 := by rw [← hC.un, ← List.length_map (fun t : CkT => t.2.2), hU]; exact hk
    refine (rcacc_some w hC hk2 hk3 hn8' hn28' A n ca R hn hB hnc hc hm h1 l v m st po pr rd rp id ref org rec xmt hV h2 k hk' (by rw [hU]; exact h3)).mono fun e w' hh => ?_
    rcases hh with ⟨q1, _⟩ | ⟨_, g1', g2', T', U', Ac', nc', cc', A2', c2', P1, p1, p2, z1, z2, z3, z4, z5, z6, z7, z8, z9, z10, z11⟩
    · rw [h4] at q1; cases q1
    · unfold accV accL accC accI
      rw [h5]
      rw [if_pos rfl, if_pos rfl, if_pos rfl, if_pos rfl, hV, h3]
      refine ⟨P1, p1, p2, z1, z2, z3, ⟨g1', g2', T', U', Ac', nc', cc', A2', n2 - 1, c2', by rw [← hT]; exact z5, by rw [← hU]; exact z6, z4, ⟨(rcl_old hC.blk.lt).trans q1, ?_, rcl_new z9⟩, fun t ht => ?_, fun t ht => (rcl_old (hC.wk t (z11 t ht)).1.lt.2).trans (q5 t (z11 t ht))⟩,
        Gw.of_kp z7 (fun g hg => .inr (by
          have : g = b ∨ g = g1 ∨ g = g2 := by simpa using hg
          rcases this with rfl | rfl | rfl <;> assumption)) (fun _ q => rcl_old q)⟩
      · rcases z8 with z8 | z8
        · rw [z8]; exact (rcl_old hC.lt1).trans q2
        · exact rcl_new z8
      · rcases z10 t ht with q | q
        · exact (rcl_old (hC.ck t q).1.lt.2).trans (q4 t q)
        · exact rcl_new q
end
end Go.Proofs.YtachhbbofemfdaaDoor
