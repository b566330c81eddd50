/- The client: Cookies, Request. The client: find. The client: Accept, the arms that refuse before anything is looked up. A variable made, and a whole block written, at an operation by itself, in a region that draws its order. No function of the program occurs here. -/
import Derived.Test.YtachhbbofemfdaaDoorGXz9
import Derived.Test.YtachhbbofemfdaaDoorGXz6
import Derived.Test.YtachhbbofemfdaaDoorGXz4
import Derived.Test.YtachhbbofemfdaaDoorGXz7
namespace Go.Proofs.YtachhbbofemfdaaDoor
open Go.RowKit
set_option linter.unusedSimpArgs false
set_option linter.unusedVariables false
set_option maxRecDepth 100000
section
variable {w w' : World} {lo b g1 g2 : Nat} {k0 k1 k2 k3 N : Int} {T : List CkT} {I : List (List Int)} {A A2 : Option Addr} {n c n2 c2 : Nat}
theorem ClX.upd {A' A2' : Option Addr} {n' c' n2' c2' : Nat} {N' : Int} {T' : List CkT} {I' : List (List Int)} (h : ClX w lo b g1 g2 k0 k1 k2 k3 T N I A n c A2 n2 c2) (hb : But b w w') (hB : Blk w' b 100 (clL k0 k1 k2 k3 A' n' c' N' A2' n2' c2'))
    (hT : ∀ t ∈ T', t ∈ T) (tn : T'.length = n') (wn : I'.length = n2') (cs : Rw w 1 g1 [b, g2] A' n' c' (T'.map ckV)) (ws : Rw w 16 g2 [b, g1] A2' n2' c2' (I'.flatMap byC)) (wt : ∀ l ∈ I', l.length = 16 ∧ Byt l) :
    ClX w' lo b g1 g2 k0 k1 k2 k3 T' N' I' A' n' c' A2' n2' c2' := by
  have hk : Kp w [b] w' := Kp.of_but hb (.inr (by simp))
  refine ⟨hB, tn, wn, cs.kp hk (by omega) (fun _ hx => ?_), ws.kp hk (by omega) (fun _ hx => ?_), fun t ht => ?_, wt, h.lob, h.lo1, h.lo2, Nat.lt_of_lt_of_le h.lt1 hk.size, Nat.lt_of_lt_of_le h.lt2 hk.size⟩
  · have : g1 ≠ b ∧ g1 ≠ g2 := by simpa using hx
    simpa using this.1
  · have : g2 ≠ b ∧ g2 ≠ g1 := by simpa using hx
    simpa using this.1
  · have h1 := h.ck t (hT t ht)
    have : t.1 ≠ b ∧ t.1 ≠ g1 ∧ t.1 ≠ g2 := by simpa using h1.1.2
    exact ⟨h1.1.kp hk (by simpa using this.1) h1.1.2, h1.2⟩
/-- one identifier more waits -/
theorem ClX.wpush {x : World} {l : List Int} {g' c' : Nat} {A' : Option Addr} (h : ClX w lo b g1 g2 k0 k1 k2 k3 T N I A n c A2 n2 c2) (hl : l.length = 16) (hy : Byt l)
    (hr : Rw w' 16 g' [b, g1] A' (n2 + 1) c' (I.flatMap byC ++ byC l)) (hk : Kp w (fp c2 g2) w') (hg : g' = g2 ∨ w.heap.size ≤ g') (hlt : g' < w'.heap.size) (hx : x = w'.setCell ⟨b, 6, none⟩ (.slice A' (n2 + 1) c')) :
    ClX x lo b g1 g' k0 k1 k2 k3 T N (I ++ [l]) A n c A' (n2 + 1) c' ∧ Kp w [b, g2] x ∧ w.heap.size ≤ x.heap.size := by
  have hb1 : b ∉ fp c2 g2 := fun hm => by
    obtain ⟨hc, rfl⟩ := fp_mem hm
    exact (h.ws.lt hc (by omega)).2 (by simp)
  have h21 : c ≠ 0 → g1 ∉ [b, g2] → g1 ∉ fp c2 g2 := fun _ hx hm => by
    obtain ⟨_, rfl⟩ := fp_mem hm
    exact hx (by simp)
  have hB := hk.blk h.blk hb1
  have hsz : x.heap.size = w'.heap.size := by rw [hx]; simp [World.setCell]
  have hgx : But b w' x := by rw [hx]; exact but_setCell _ _ _ _
  have hk2 : Kp w' [b] x := Kp.of_but hgx (.inr (by simp))
  have hBx : Blk x b 100 (clL k0 k1 k2 k3 A n c N A' (n2 + 1) c') := by rw [hx]; exact hB.set 6 _
  have hgb : g' ∉ [b, g1] := (hr.lt (by have := hr.2.1; omega) (by omega)).2
  have hgb' : g' ≠ b ∧ g' ≠ g1 := by simpa using hgb
  refine ⟨⟨hBx, h.tn, by rw [List.length_append, h.wn]; rfl, ?_, ?_, fun u hu => ?_, fun u hu => ?_, h.lob, h.lo1, ?_, by rw [hsz]; exact Nat.lt_of_lt_of_le h.lt1 hk.size, by rw [hsz]; exact hlt⟩, ?_, by rw [hsz]; exact hk.size⟩
  · refine ((h.cs.kp hk (by omega) h21).av' fun _ hx => ?_).kp hk2 (by omega) fun _ hx => ?_
    · have h3 : g1 ≠ b ∧ g1 ≠ g2 := by simpa using hx
      simp
      exact ⟨h3.1, fun e => hgb'.2 e.symm⟩
    · have h3 : g1 ≠ b ∧ g1 ≠ g' := by simpa using hx
      simpa using h3.1
  · rw [List.flatMap_append]
    have e : [l].flatMap byC = byC l := by simp
    rw [e]
    exact hr.kp hk2 (by omega) (fun _ _ => by simpa using hgb'.1)
  · have key := h.ck u hu
    have hu3 : u.1 ≠ b ∧ u.1 ≠ g1 ∧ u.1 ≠ g2 := by simpa using key.1.2
    have hul := key.1.lt
    refine ⟨(key.1.kp hk (fun hm => hu3.2.2 (fp_mem hm).2) key.1.2).kp hk2 (by simpa using hu3.1) ?_, key.2⟩
    simp
    refine ⟨hu3.1, hu3.2.1, fun e => ?_⟩
    rcases hg with hg | hg
    · exact hu3.2.2 (e.trans hg)
    · omega
  · rw [List.mem_append] at hu
    rcases hu with hu | hu
    · exact h.wt u hu
    · obtain rfl : u = l := by simpa using hu
      exact ⟨hl, hy⟩
  · rcases hg with hg | hg
    · rw [hg]; exact h.lo2
    · have := h.lt2; have := h.lo2; omega
  · exact (hk.less fun g hm => .inr (by rw [(fp_mem hm).2]; simp)).but hgx (.inr (by simp))
end
set_option maxHeartbeats 1000000 in
theorem cookies_nil (w : World) : Calls Tryd.prog 23 #[.pointer none] w fun e w' => e = .returned (.int .i64 0) ∧ w = w' := by
  go_enter Tryd.func23, Tryd.ntmps23
  go_wp2
  go_ret
  exact ⟨rfl, rfl⟩
set_option maxHeartbeats 1000000 in
theorem cookies_ok (w : World) {lo b g1 g2 : Nat} {k0 k1 k2 k3 N : Int} {T : List CkT} {I : List (List Int)} {A A2 : Option Addr} {n c n2 c2 : Nat} (h : ClX w lo b g1 g2 k0 k1 k2 k3 T N I A n c A2 n2 c2) :
    Calls Tryd.prog 23 #[.pointer (some ⟨b, 0, none⟩)] w fun e w' => e = .returned (.int .i64 n) ∧ w = w' := by
  have hB := h.blk
  go_enter Tryd.func23, Tryd.ntmps23
  go_wp2_with (first | (refine wpl_loadf (by rfl) 51 _ (by rfl) b 4 (by rfl) _ _ hB _ rfl _ Tryd.underlying51 rfl ?_))
  go_ret
  exact ⟨rfl, rfl⟩
set_option maxRecDepth 100000 in
set_option maxHeartbeats 4000000 in
theorem req_nil (l v m st po pr rd rp id ref org rec xmt nonce : Int) (w : World) : Calls Tryd.prog 21 #[.pointer none, ntp l v m st po pr rd rp id ref org rec xmt, .int .u64 nonce] w fun e w' => e = .returned (.tuple #[.slice none 0 0, .int .i64 1]) ∧ Below w.heap.size w w' := by
  go_enter Tryd.func21, Tryd.ntmps21
  go_wp2_with (first | (refine wpl_box (by rfl) 27 _ (by rfl) _ ([.int .i64 l, .int .i64 v, .int .i64 m, .int .i64 st, .int .i64 po, .int .i64 pr, .int .u32 rd, .int .u32 rp, .int .u32 id, .int .u64 ref, .int .u64 org, .int .u64 rec, .int .u64 xmt]) (by rfl) rfl ?_; intro w1 P1 s1 b1))
  go_ret2
  exact ⟨rfl, b1⟩
set_option maxRecDepth 100000 in
set_option maxHeartbeats 4000000 in
theorem req_arg (l v m st po pr rd rp id ref org rec xmt nonce : Int) (b : Nat) (w : World) (hE : nchk l v m st po pr ≠ 0) : Calls Tryd.prog 21 #[.pointer (some ⟨b, 0, none⟩), ntp l v m st po pr rd rp id ref org rec xmt, .int .u64 nonce] w fun e w' => e = .returned (.tuple #[.slice none 0 0, .int .i64 2]) ∧ Below w.heap.size w w' := by
  have hK := fun W => nchk_any l v m st po pr rd rp id ref org rec xmt W
  have hE' : (nchk l v m st po pr != 0) = true := by simpa using hE
  generalize nchk l v m st po pr = E at hK hE'
  clear hE
  go_enter Tryd.func21, Tryd.ntmps21
  go_wp2_with (first
    | (refine wpl_box (by rfl) 27 _ (by rfl) _ ([.int .i64 l, .int .i64 v, .int .i64 m, .int .i64 st, .int .i64 po, .int .i64 pr, .int .u32 rd, .int .u32 rp, .int .u32 id, .int .u64 ref, .int .u64 org, .int .u64 rec, .int .u64 xmt]) (by rfl) rfl ?_; intro w1 P1 s1 b1)
    | (refine wpl_load (by rfl) 27 _ (by rfl) w.heap.size (by rfl) 27 _ P1 _ Tryd.underlying27 rfl _ sizeNtp (by rfl) ?_)
    | (go_at_call 39; ((with_reducible refine (hK _).mono ?_); rintro e w2 ⟨rfl, b2⟩; (have P2 := P1.below b2 (by omega)); (have B2 := b1.trans (b2.mono (by omega)))))
    )
  go_ret2
  exact ⟨rfl, B2⟩
set_option maxRecDepth 100000 in
set_option maxHeartbeats 4000000 in
theorem req_empty (l v m st po pr rd rp id ref org rec xmt nonce : Int) (w : World) {lo b g1 g2 : Nat} {k0 k1 k2 k3 N : Int} {T : List CkT} {I : List (List Int)} {A A2 : Option Addr} {c n2 c2 : Nat} (h : ClX w lo b g1 g2 k0 k1 k2 k3 T N I A 0 c A2 n2 c2) (hE : nchk l v m st po pr = 0) :
    Calls Tryd.prog 21 #[.pointer (some ⟨b, 0, none⟩), ntp l v m st po pr rd rp id ref org rec xmt, .int .u64 nonce] w fun e w' => e = .returned (.tuple #[.slice none 0 0, .int .i64 14]) ∧ Below w.heap.size w w' := by
  have hK := fun W => nchk_any l v m st po pr rd rp id ref org rec xmt W
  rw [hE] at hK
  have hB := h.blk
  go_enter Tryd.func21, Tryd.ntmps21
  go_wp2_with (first
    | (refine wpl_box (by rfl) 27 _ (by rfl) _ ([.int .i64 l, .int .i64 v, .int .i64 m, .int .i64 st, .int .i64 po, .int .i64 pr, .int .u32 rd, .int .u32 rp, .int .u32 id, .int .u64 ref, .int .u64 org, .int .u64 rec, .int .u64 xmt]) (by rfl) rfl ?_; intro w1 P1 s1 b1)
    | (refine wpl_load (by rfl) 27 _ (by rfl) w.heap.size (by rfl) 27 _ P1 _ Tryd.underlying27 rfl _ sizeNtp (by rfl) ?_)
    | (go_at_call 39; ((with_reducible refine (hK _).mono ?_); rintro e w2 ⟨rfl, b2⟩; (have P2 := P1.below b2 (by omega)); (have B2 := b1.trans (b2.mono (by omega)))))
    | (refine wpl_loadf (by rfl) 51 _ (by rfl) b 4 (by rfl) _ _ (hB.below B2 hB.lt) _ rfl _ Tryd.underlying51 rfl ?_))
  go_ret2
  exact ⟨rfl, B2⟩
theorem run_build1 (W : World) (u0 u1 u2 u3 u4 u5 u6 u7 u8 u9 u10 u11 u12 u13 u14 u15 : Value) : (Instr.buildSlice 98 1 #[(0, .agg #[u0, u1, u2, u3, u4, u5, u6, u7, u8, u9, u10, u11, u12, u13, u14, u15])]).run Tryd.prog W = .ok (.slice (some ⟨W.heap.size, 0, none⟩) 1 1) (W.alloc (.cells #[u0, u1, u2, u3, u4, u5, u6, u7, u8, u9, u10, u11, u12, u13, u14, u15] 101)) := by kernel_rfl
/-- a slice of one identifier -/
theorem wp_build1 {o : Oper} {a : Act} {w : World} {K : Act → World → Prop} {Q : Exit → Act → World → Prop} (x : Operand) (ho : o.op = .buildSlice 98 1 #[(0, x)]) (cs : List Value) (hx : a.eval x = .agg cs.toArray) (hl : cs.length = 16)
    (h : K (a.put o.dst (.slice (some ⟨w.heap.size, 0, none⟩) 1 1)) (w.alloc (.cells cs.toArray 101))) : o.wp Tryd.prog a w K Q := by
  match cs, hl with
  | [u0, u1, u2, u3, u4, u5, u6, u7, u8, u9, u10, u11, u12, u13, u14, u15], _ =>
    unfold Oper.wp execOp
    simp only [ho, List.map_toArray, List.map_cons, List.map_nil, hx, run_build1, Sem.run_bind, Result.andThen_ok, Sem.run_pure]
    exact h
theorem flat_drop {I : List (List Int)} (h : ∀ l ∈ I, l.length = 16 ∧ Byt l) (h0 : 0 < I.length) : (I.flatMap byC).drop 16 = (I.drop 1).flatMap byC := by
  match I, h0 with
  | l :: r, _ =>
    have := (h l (List.mem_cons_self ..)).1
    rw [List.flatMap_cons, List.drop_left' (by rw [List.length_map]; exact this)]
    rfl
/-- the bytes of a request -/
def rqF (n nonce : Int) (ck : List Int) : Flds := [(260, idB n nonce), (516, ck)]
theorem rqF_apx (n nonce : Int) {ck : List Int} (h : ck.length = 52) : apxE (rqF n nonce ck) = 0 := by
  have := idB_len n nonce
  simp [rqF, apxE, firE, chkE, kdL, dtL, this, h]
def wtN (I : List (List Int)) (x : List Int) : List (List Int) := (if I.length = 8 then I.drop 1 else I) ++ [x]
theorem blk_bs {w : World} {g : Nat} {t : TypeId} {l : List Int} (h : Blk w g t (byC l)) (hb : Byt l) : Bs w g (g + 1) (some ⟨g, 0, none⟩) l :=
  ⟨hb, fun hp => ⟨g, 0, rfl, Nat.le_refl _, by omega, fun k hk => by
    rw [Nat.zero_add]
    refine h.cell ?_
    rw [List.getElem?_map, List.getElem?_eq_getElem hk]
    simp [atB, List.getD_eq_getElem?_getD, List.getElem?_eq_getElem hk]⟩⟩
theorem xs_two {w : World} {g hi : Nat} {kd kd' : Int} {A A' : Option Addr} {n c n' c' : Nat} {dt dt' : List Int} (h : Blk w g 62 [.int .i64 kd, .slice A n c, .int .i64 kd', .slice A' n' c']) (hg : g < hi)
    (hn : dt.length = n) (hb : Bs w 0 hi A dt) (h1 : n ≤ c) (h2 : c ≤ 9223372036854775807) (h3 : A = none → n = 0 ∧ c = 0)
    (hn' : dt'.length = n') (hb' : Bs w 0 hi A' dt') (h1' : n' ≤ c') (h2' : c' ≤ 9223372036854775807) (h3' : A' = none → n' = 0 ∧ c' = 0) : Xs w hi (some ⟨g, 0, none⟩) [(kd, dt), (kd', dt')] := fun _ =>
  ⟨g, 0, rfl, hg, fun k hk => by
    subst hn hn'
    have : k = 0 ∨ k = 1 := by simp at hk; omega
    rcases this with rfl | rfl
    · exact ⟨A, c, h.cell (i := 0) rfl, h.cell (i := 1) rfl, hb, h1, h2, h3⟩
    · exact ⟨A', c', h.cell (i := 2) rfl, h.cell (i := 3) rfl, hb', h1', h2', h3'⟩⟩
set_option maxRecDepth 100000 in
set_option maxHeartbeats 16000000 in
theorem req_ok (l v m st po pr rd rp id ref org rec xmt nonce : Int) (w : World) {lo b g1 g2 : Nat} {k0 k1 k2 k3 N : Int} {t0 : CkT} {T : List CkT} {I : List (List Int)} {A A2 : Option Addr} {n c n2 c2 : Nat} (h : ClX w lo b g1 g2 k0 k1 k2 k3 (t0 :: T) N I A n c A2 n2 c2) (hE : nchk l v m st po pr = 0) (h6 : 0 ≤ rd ∧ rd ≤ 4294967295) (h7 : 0 ≤ rp ∧ rp ≤ 4294967295) (h8 : 0 ≤ id ∧ id ≤ 4294967295) (h9 : 0 ≤ ref ∧ ref ≤ 18446744073709551615) (h10 : 0 ≤ org ∧ org ≤ 18446744073709551615) (h11 : 0 ≤ rec ∧ rec ≤ 18446744073709551615) (h12 : 0 ≤ xmt ∧ xmt ≤ 18446744073709551615)
    (hk0 : U64 k0) (hk1 : U64 k1) (hN : 0 ≤ N ∧ N < 18446744073709551615) (hno : U64 nonce) (hR : Rnd w) (hlo : 0 < lo) (hn8 : n ≤ 8) (hn28 : n2 ≤ 8) :
    Calls Tryd.prog 21 #[.pointer (some ⟨b, 0, none⟩), ntp l v m st po pr rd rp id ref org rec xmt, .int .u64 nonce] w fun e w' => ∃ r c' Nn g2' A' c1' A2' n2' c2', e = .returned (.tuple #[.slice (some ⟨r, 0, none⟩) Nn c', .int .i64 0]) ∧ (msgB l v m st po pr rd rp id ref org rec xmt (rqF (N + 1) nonce t0.2.2) k0 k1).length = Nn ∧
      Ck w' w.heap.size [b, g1, g2'] (r, c', msgB l v m st po pr rd rp id ref org rec xmt (rqF (N + 1) nonce t0.2.2) k0 k1) ∧ ClX w' lo b g1 g2' k0 k1 k2 k3 T (N + 1) (wtN I (idB (N + 1) nonce)) A' (n - 1) c1' A2' n2' c2' ∧ Kp w [b, g1, g2] w' ∧ (g2' = g2 ∨ w.heap.size ≤ g2') := by
  have hK := fun W => nchk_any l v m st po pr rd rp id ref org rec xmt W
  rw [hE] at hK
  have hw := IntKind.wrap_u64 (N + 1)
  have hw1 : IntKind.u64.wrap (N + 1) = N + 1 := by omega
  clear hw
  have hu1 : U64 (N + 1) := ⟨by omega, by omega⟩
  have hI := fun W => ident_any (N + 1) nonce W hu1 hno
  obtain ⟨hc0, hc52⟩ := h.ck t0 (List.mem_cons_self ..)
  have hapx := rqF_apx (N + 1) nonce hc52
  have hS := fun B q d W hm hX hmd hd hR => seal_ok l v m st po pr rd rp id ref org rec xmt B q d (rqF (N + 1) nonce t0.2.2) k0 k1 W hE h6 h7 h8 h9 h10 h11 h12 hm hX hmd hd hapx hk0 hk1 hR
  obtain ⟨o, hA, hat⟩ := h.cs.at (k := 0) (by have := h.tn; simp at this; omega) (by omega)
  have hck0 : w.cell? ⟨g1, o, none⟩ = some (ckV t0) := by simpa using hat 0 (by omega)
  subst hA
  have hB := h.blk
  have hnp : 0 < n := by have := h.tn; simp at this; omega
  have hnd : ((n : Int) == 0) = false := by simp; omega
  have hidl := idB_len (N + 1) nonce
  have hzl : (byC (List.replicate 16 0)).length = 16 := rfl
  have hidc : (byC (idB (N + 1) nonce)).length = 16 := by rw [List.length_map]; exact hidl
  obtain ⟨Z, hZ⟩ : ∃ Z, byC (List.replicate 16 0) = Z := ⟨_, rfl⟩
  have hzero := zeroId
  rw [hZ] at hzero hzl
  obtain ⟨ID, hID⟩ : ∃ ID, ID = byC (idB (N + 1) nonce) := ⟨_, rfl⟩
  rw [← hID] at hI hidc
  have hid1 : ∀ u ∈ ID, u.oneCell' = true := by rw [hID]; exact oneCellU8 _
  have HID := Lib.hid hID
  clear hID hZ
  go_enter Tryd.func21, Tryd.ntmps21
  go_wp2_with (first
    | (refine wpl_box (by rfl) 27 _ (by rfl) _ ([.int .i64 l, .int .i64 v, .int .i64 m, .int .i64 st, .int .i64 po, .int .i64 pr, .int .u32 rd, .int .u32 rp, .int .u32 id, .int .u64 ref, .int .u64 org, .int .u64 rec, .int .u64 xmt]) (by rfl) rfl ?_; intro w1 P1 s1 b1)
    | (refine wpl_load (by rfl) 27 _ (by rfl) w.heap.size (by rfl) 27 _ P1 _ Tryd.underlying27 rfl _ sizeNtp (by rfl) ?_)
    | (go_at_call 39; ((with_reducible refine (hK _).mono ?_); rintro e w2 ⟨rfl, b2⟩; (have P2 := P1.below b2 (by omega)); (have B2 := b1.trans (b2.mono (by omega)))))
    | (refine wpl_loadf (by rfl) 51 _ (by rfl) b 4 (by rfl) _ _ (hB.below B2 hB.lt) _ rfl _ Tryd.underlying51 rfl ?_)
    | (refine wpl_loadf (by rfl) 22 _ (by rfl) b 5 (by rfl) _ _ (hB.below B2 hB.lt) _ rfl _ Tryd.underlying22 rfl ?_)
    | (go_at_call 48; ((with_reducible refine (hI _).mono ?_); rintro e w3 ⟨rfl, b3⟩; (have B3 := B2.trans (b3.mono B2.size)); (have P3 := P2.below b3 P2.lt); (have z3 := b3.size)))
    | ((refine wpl_alloc (by rfl) 101 (by rfl) (.agg (Z).toArray) (Z) hzero rfl ?_; intro w4 D4 s4 b4); (have B4 := B3.trans (b4.mono B3.size)); (have P4 := P3.below b4 P3.lt))
    | (refine wpl_store (by rfl) 101 _ _ (by rfl) w3.heap.size (by rfl) _ (by rfl) ID rfl 101 _ D4 (hzl.trans hidc.symm) _ sizeId hidc hid1 ?_; intro w5 D5 s5 g5; (have B5 := B4.trans (g5.below B4.size B3.size)); (have P5 := P4.but g5 (Nat.ne_of_lt P3.lt))))
  have e52 : ckV t0 = .slice (some ⟨t0.1, 0, none⟩) 52 t0.2.1 := by show Value.slice _ t0.2.2.length _ = _; rw [hc52]
  rw [e52] at hck0
  have hB5 := hB.below B5 hB.lt
  have hck5 := kept_cell B5 hck0 (World.block_lt_of_cell? w _ hck0)
  have hc5 : w5.cell? ⟨b, 4, none⟩ = some (.slice (some ⟨g1, o, none⟩) n c) := hB5.cell rfl
  have hR5 := hR.below B5 hR.lt
  have hC5 := h.below B5 (Nat.le_refl _)
  have hO5 := (hC5.ck t0 (List.mem_cons_self ..)).1.1
  have hn0 : (0 : Int) < n := by omega
  have z5 : w3.heap.size < w5.heap.size := D5.lt
  have zb : b < w3.heap.size := by have := hB.lt; have := B3.size; omega
  have z1 : g1 < w3.heap.size := by have := h.lt1; have := B3.size; omega
  have z2' : g2 < w3.heap.size := by have := h.lt2; have := B3.size; omega
  clear P1 P2 P3 P4 D4 b1 b2 b3 b4 g5 B2 B3 B4 hK hI s1 z3 s4 s5 hat hck0 hc0 hB
  generalize hq3 : w3.heap.size = q3 at *
  refine wp_region_heldL (fun y => Blk y w.heap.size 27 [.int .i64 l, .int .i64 v, .int .i64 m, .int .i64 st, .int .i64 po, .int .i64 pr, .int .u32 rd, .int .u32 rp, .int .u32 id, .int .u64 ref, .int .u64 org, .int .u64 rec, .int .u64 xmt] ∧ Blk y b 100 (clL k0 k1 k2 k3 (some ⟨g1, o, none⟩) n c N A2 n2 c2) ∧ y.cell? ⟨b, 4, none⟩ = some (.slice (some ⟨g1, o, none⟩) n c) ∧ y.cell? ⟨g1, o, none⟩ = some (.slice (some ⟨t0.1, 0, none⟩) 52 t0.2.1)) 21 (by kernel_rfl) rfl ⟨P5.drew, hB5.drew, hc5, hck5⟩ fun hHeld => ?_
  simp only [List.replicate]
  refine wpH_t 0 (.agg ([.int .i64 l, .int .i64 v, .int .i64 m, .int .i64 st, .int .i64 po, .int .i64 pr, .int .u32 rd, .int .u32 rp, .int .u32 id, .int .u64 ref, .int .u64 org, .int .u64 rec, .int .u64 xmt]).toArray) (by exact gE rfl) (by kernel_rfl) (by intro _ _ _ h; exact h) (yieldsIf_load_mid (by rfl) 27 _ (by rfl) w.heap.size 0 (by rfl) ([.int .i64 l, .int .i64 v, .int .i64 m, .int .i64 st, .int .i64 po, .int .i64 pr, .int .u32 rd, .int .u32 rp, .int .u32 id, .int .u64 ref, .int .u64 org, .int .u64 rec, .int .u64 xmt]) _ (fun w' h => h.1.range) Tryd.underlying27 rfl sizeNtp) (by assumption) ?_
  (try simp only [Act.put, zs0, zs1, zs2])
  (refine wpH_t 1 _ (by exact gE rfl) (by kernel_rfl) (by intro _ _ _ h; exact h) (Or.inl ⟨by rfl, (by intro _ h; (try dsimp only at h); go_simp; first | done | with_reducible rfl)⟩) (by assumption) ?_; (try simp only [Act.put, zs0, zs1, zs2]))
  (refine wpH_t 2 _ (by exact gE rfl) (by kernel_rfl) (by intro _ _ _ h; exact h) (Or.inl ⟨by rfl, (by intro _ h; (try dsimp only at h); go_simp; first | done | with_reducible rfl)⟩) (by assumption) ?_; (try simp only [Act.put, zs0, zs1, zs2]))
  (refine wpH_t 3 _ (by exact gE rfl) (by kernel_rfl) (by intro _ _ _ h; exact h) (Or.inl ⟨by rfl, (by intro _ h; (try dsimp only at h); go_simp; first | done | with_reducible rfl)⟩) (by assumption) ?_; (try simp only [Act.put, zs0, zs1, zs2]))
  (refine wpH_t 4 _ (by exact gE rfl) (by kernel_rfl) (by intro _ _ _ h; exact h) (Or.inl ⟨by rfl, (by intro _ h; (try dsimp only at h); go_simp; first | done | with_reducible rfl)⟩) (by assumption) ?_; (try simp only [Act.put, zs0, zs1, zs2]))
  (refine wpH_t 5 _ (by exact gE rfl) (by kernel_rfl) (by intro _ _ _ h; exact h) (Or.inl ⟨by rfl, (by intro _ h; (try dsimp only at h); go_simp; first | done | with_reducible rfl)⟩) (by assumption) ?_; (try simp only [Act.put, zs0, zs1, zs2]))
  (refine wpH_t 6 _ (by exact gE rfl) (by kernel_rfl) (by intro _ _ _ h; exact h) (Or.inl ⟨by rfl, (by intro _ h; (try dsimp only at h); go_simp; first | done | with_reducible rfl)⟩) (by assumption) ?_; (try simp only [Act.put, zs0, zs1, zs2]))
  (refine wpH_t 7 _ (by exact gE rfl) (by kernel_rfl) (by intro _ _ _ h; exact h) (Or.inl ⟨by rfl, (by intro _ h; (try dsimp only at h); go_simp; first | done | with_reducible rfl)⟩) (by assumption) ?_; (try simp only [Act.put, zs0, zs1, zs2]))
  (refine wpH_t 8 _ (by exact gE rfl) (by kernel_rfl) (by intro _ _ _ h; exact h) (Or.inl ⟨by rfl, (by intro _ h; (try dsimp only at h); go_simp; first | done | with_reducible rfl)⟩) (by assumption) ?_; (try simp only [Act.put, zs0, zs1, zs2]))
  (refine wpH_t 9 _ (by exact gE rfl) (by kernel_rfl) (by intro _ _ _ h; exact h) (Or.inl ⟨by rfl, (by intro _ h; (try dsimp only at h); go_simp; first | done | with_reducible rfl)⟩) (by assumption) ?_; (try simp only [Act.put, zs0, zs1, zs2]))
  (refine wpH_t 11 _ (by exact gE rfl) (by kernel_rfl) (by intro _ _ _ h; exact h) (Or.inl ⟨by rfl, (by intro _ h; (try dsimp only at h); go_simp; first | done | with_reducible rfl)⟩) (by assumption) ?_; (try simp only [Act.put, zs0, zs1, zs2]))
  (refine wpH_t 12 _ (by exact gE rfl) (by kernel_rfl) (by intro _ _ _ h; exact h) (Or.inl ⟨by rfl, (by intro _ h; (try dsimp only at h); go_simp; first | done | with_reducible rfl)⟩) (by assumption) ?_; (try simp only [Act.put, zs0, zs1, zs2]))
  (refine wpH_t 13 _ (by exact gE rfl) (by kernel_rfl) (by intro _ _ _ h; exact h) (Or.inl ⟨by rfl, (by intro _ h; (try dsimp only at h); go_simp; first | done | with_reducible rfl)⟩) (by assumption) ?_; (try simp only [Act.put, zs0, zs1, zs2]))
  refine wpH_t 14 (.agg (keyL k0 k1).toArray) (by exact gE rfl) (by kernel_rfl) (by intro _ _ _ h; exact h) (yieldsIf_load_mid (by rfl) 29 _ (by rfl) b 0 (by rfl) (keyL k0 k1) _ (fun w' h => Blk.mid h.2.1 0 (keyL k0 k1) rfl) Tryd.underlying29 rfl sizeKey) (by assumption) ?_
  (try simp only [Act.put, zs0, zs1, zs2])
  have hn5 : w5.drew.heap.size = w5.heap.size := rfl
  (refine wpH_one (i := 10) (by exact gE rfl) (by kernel_rfl) (by rfl) ?_; (go_simp; refine ⟨⟨P5.drew.old, hB5.drew.old, hB5.drew.old.cell rfl, (World.cell?_alloc_lt _ _ _ (World.block_lt_of_cell? w5 _ hck5)).trans hck5⟩, ?_⟩); (try simp only [Act.put, zs0, zs1, zs2]))
  obtain ⟨w6, hw6⟩ : ∃ w6, w6 = (w5.alloc (.cells #[.int .i64 260, .slice (some ⟨q3, 0, none⟩) 16 16, .int .i64 516, .slice (some ⟨t0.1, 0, none⟩) 52 t0.2.1] 62)).drew := ⟨_, rfl⟩
  rw [← hw6]
  have b6 : Below w5.heap.size w5 w6 := by rw [hw6]; exact ((Below.refl _ w5).alloc (Nat.le_refl _) _).drew
  have N6 : Blk w6 w5.heap.size 62 [.int .i64 260, .slice (some ⟨q3, 0, none⟩) 16 16, .int .i64 516, .slice (some ⟨t0.1, 0, none⟩) 52 t0.2.1] := by rw [hw6]; exact (Blk.new w5 _ _ _ rfl).drew
  clear hw6
  have D6 := D5.below b6 D5.lt
  have O6 := hO5.below b6 (Nat.le_refl _)
  have z6 := N6.lt
  have X6 : Xs w6 w6.heap.size (some ⟨w5.heap.size, 0, none⟩) (rqF (N + 1) nonce t0.2.2) := xs_two N6 z6 hidl ((blk_bs (HID.out ▸ D6) (idB_byt _ _)).wide (Nat.zero_le _) (by omega)) (by omega) (by omega) (fun h => by cases h) hc52 (O6.bs.wide (Nat.zero_le _) (Nat.le_refl _)) (by have := O6.cap_le; omega) O6.cap_max (fun h => by cases h)
  have R6 := hR5.below b6 hR5.lt
  have P6 := P5.below b6 P5.lt
  have hB6 := hB5.below b6 hB5.lt
  have hC6 := hC5.below b6 (Nat.le_refl _)
  have hck6 := kept_cell b6 hck5 (World.block_lt_of_cell? w5 _ hck5)
  have B6 := B5.trans (b6.mono B5.size)
  have hHeld6 : Blk w6 w.heap.size 27 [.int .i64 l, .int .i64 v, .int .i64 m, .int .i64 st, .int .i64 po, .int .i64 pr, .int .u32 rd, .int .u32 rp, .int .u32 id, .int .u64 ref, .int .u64 org, .int .u64 rec, .int .u64 xmt] ∧ Blk w6 b 100 (clL k0 k1 k2 k3 (some ⟨g1, o, none⟩) n c N A2 n2 c2) ∧ w6.cell? ⟨b, 4, none⟩ = some (.slice (some ⟨g1, o, none⟩) n c) ∧ w6.cell? ⟨g1, o, none⟩ = some (.slice (some ⟨t0.1, 0, none⟩) 52 t0.2.1) := ⟨P6, hB6, hB6.cell rfl, hck6⟩
  have hSE := hS (some ⟨w5.heap.size, 0, none⟩) 2 2 w6 rfl X6 (Nat.le_refl _) (by omega) R6
  have hML : 0 < (msgB l v m st po pr rd rp id ref org rec xmt (rqF (N + 1) nonce t0.2.2) k0 k1).length := by rw [msgB_len]; omega
  generalize hMM : msgB l v m st po pr rd rp id ref org rec xmt (rqF (N + 1) nonce t0.2.2) k0 k1 = MM at hSE hML ⊢
  (refine wpH_one (i := 15) (by exact gE rfl) (by kernel_rfl) (by rfl) ?_; (go_simp; (with_reducible refine hSE.mono ?_); rintro e w7 ⟨A7, c7, N7, rfl, h7, O7, b7⟩; refine ⟨⟨P6.below b7 P6.lt, hB6.below b7 hB6.lt, (hB6.below b7 hB6.lt).cell rfl, kept_cell b7 hck6 (World.block_lt_of_cell? w6 _ hck6)⟩, ?_⟩); (try simp only [Act.put, zs0, zs1, zs2]))
  have hHeld7 : Blk w7 w.heap.size 27 [.int .i64 l, .int .i64 v, .int .i64 m, .int .i64 st, .int .i64 po, .int .i64 pr, .int .u32 rd, .int .u32 rp, .int .u32 id, .int .u64 ref, .int .u64 org, .int .u64 rec, .int .u64 xmt] ∧ Blk w7 b 100 (clL k0 k1 k2 k3 (some ⟨g1, o, none⟩) n c N A2 n2 c2) ∧ w7.cell? ⟨b, 4, none⟩ = some (.slice (some ⟨g1, o, none⟩) n c) ∧ w7.cell? ⟨g1, o, none⟩ = some (.slice (some ⟨t0.1, 0, none⟩) 52 t0.2.1) := ⟨P6.below b7 P6.lt, hB6.below b7 hB6.lt, (hB6.below b7 hB6.lt).cell rfl, kept_cell b7 hck6 (World.block_lt_of_cell? w6 _ hck6)⟩
  (refine wpH_t 16 _ (by exact gE rfl) (by kernel_rfl) (by intro _ _ _ h; exact h) (Or.inl ⟨by rfl, (by intro _ h; (try dsimp only at h); go_simp; first | done | with_reducible rfl)⟩) (by assumption) ?_; (try simp only [Act.put, zs0, zs1, zs2]))
  (refine wpH_t 17 _ (by exact gE rfl) (by kernel_rfl) (by intro _ _ _ h; exact h) (Or.inl ⟨by rfl, (by intro _ h; (try dsimp only at h); go_simp; first | done | with_reducible rfl)⟩) (by assumption) ?_; (try simp only [Act.put, zs0, zs1, zs2]))
  (refine wpH_t 18 _ (by exact gE rfl) (by kernel_rfl) (by intro _ _ _ h; exact h) (Or.inl ⟨by rfl, (by intro _ h; (try dsimp only at h); go_simp; first | done | with_reducible rfl)⟩) (by assumption) ?_; (try simp only [Act.put, zs0, zs1, zs2]))
  (refine wpH_t 19 _ (by exact gE rfl) (by kernel_rfl) (by intro _ _ _ h; exact h) (Or.inl ⟨by rfl, (by intro _ h; (try dsimp only at h); go_simp; first | done | with_reducible rfl)⟩) (by assumption) ?_; (try simp only [Act.put, zs0, zs1, zs2]))
  (refine wpH_t 20 _ (by exact gE rfl) (by kernel_rfl) (by intro _ _ _ h; exact h) (Or.inl ⟨by rfl, (by intro _ h; (try dsimp only at h); go_simp; first | done | with_reducible rfl)⟩) (by assumption) ?_; (try simp only [Act.put, zs0, zs1, zs2]))
  refine wpH_done (by kernel_rfl) ?_ _
  have hC7 := hC6.below b7 (Nat.le_refl _)
  have D7 := D6.below b7 D6.lt
  have B7 := B6.trans (b7.mono B6.size)
  have hB7 := hC7.blk
  obtain ⟨r, rfl, hr1, hr2⟩ : ∃ r, A7 = some ⟨r, 0, none⟩ ∧ w6.heap.size ≤ r ∧ r < w7.heap.size := by
    rcases O7.form with ⟨_, e, _⟩ | ⟨r, e1, e2, e3⟩
    · rw [e] at hML; cases hML
    · exact ⟨r, e1, e2, e3⟩
  have zB6 := B6.size
  have HM := Lib.hid hMM
  have HN7 := Lib.hid h7
  clear hMM h7 hML hHeld hHeld6 hHeld7 X6 N6 hSE O6 P6 P5 hB6 hB5 hck5 hck6 hc5 hC5 hC6 D6 D5 b6 b7 hS hapx B5 B6 R6 hR5 hO5
  have hn1 : (1 : Int) ≤ n := by omega
  have hnc := hC7.cs.2.1
  obtain ⟨A1, hA1⟩ : ∃ A1, (if c = 1 then some (⟨g1, o, none⟩ : Addr) else some ⟨g1, o + 1, none⟩) = A1 := ⟨_, rfl⟩
  have R1 : Rw w7 1 g1 [b, g2] A1 (n - 1) (c - 1) (T.map ckV) := by
    have h := hC7.cs.tail (by omega)
    rw [← hA1]
    simpa [Addr.add] using h
  by_cases h28 : n2 = 8
  · subst h28
    obtain ⟨o2, hA2, _⟩ := hC7.ws.at (k := 0) (by omega) (by omega)
    subst hA2
    have hc28 := hC7.ws.2.1
    have hc21 : ¬ (c2 = 1) := by omega
    have hc21' : (c2 = 1) = False := by simp [hc21]
    have R2 : Rw w7 16 g2 [b, g1] (some ⟨g2, o2 + 16, none⟩) 7 (c2 - 1) ((I.drop 1).flatMap byC) := by
      have h := hC7.ws.tail (by omega)
      rw [if_neg hc21] at h
      have e : (I.flatMap byC).drop 16 = (I.drop 1).flatMap byC := flat_drop hC7.wt (by rw [hC7.wn]; omega)
      rw [e] at h
      simpa [Addr.add] using h
    go_wp2_with (first
      | (refine wpl_loadf (by rfl) 22 _ (by rfl) b 5 (by rfl) _ _ hB7 _ rfl _ Tryd.underlying22 rfl ?_)
      | (refine wpl_storeg (by rfl) 22 _ _ (by rfl) b 5 (by rfl) (.int .u64 (N + 1)) (by rfl) (by rfl) (by simp [Value.oneCell']) _ _ (clL k0 k1 k2 k3 (some ⟨g1, o, none⟩) n c (N + 1) (some ⟨g2, o2, none⟩) 8 c2) hB7 (by simp) sizeU64' (by rfl) ?_; intro w8 hB8 s8 g8)
      | (refine wpl_loadf (by rfl) 51 _ (by rfl) b 4 (by rfl) _ _ hB8 _ rfl _ Tryd.underlying51 rfl ?_)
      | ((refine wpl_storeg (by rfl) 51 _ _ (by rfl) b 4 (by rfl) (.slice A1 (n - 1) (c - 1)) (by rfl) (by rfl) (by simp [Value.oneCell']) _ _ (clL k0 k1 k2 k3 A1 (n - 1) (c - 1) (N + 1) (some ⟨g2, o2, none⟩) 8 c2) hB8 (by simp) sizeSls (by rfl) ?_; intro w9 hB9 s9 g9))
      | (refine wpl_loadf (by rfl) 98 _ (by rfl) b 6 (by rfl) _ _ hB9 _ rfl _ Tryd.underlying98 rfl ?_)
      | ((refine wpl_storeg (by rfl) 98 _ _ (by rfl) b 6 (by rfl) (.slice (some ⟨g2, o2 + 16, none⟩) 7 (c2 - 1)) (by rfl) (by rfl) (by simp [Value.oneCell']) _ _ (clL k0 k1 k2 k3 A1 (n - 1) (c - 1) (N + 1) (some ⟨g2, o2 + 16, none⟩) 7 (c2 - 1)) hB9 (by simp) sizeIds (by rfl) ?_; intro w10 hB10 s10 g10)))
    have hg := (g8.trans g9).trans g10
    have hCo : ClX w10 lo b g1 g2 k0 k1 k2 k3 T (N + 1) (I.drop 1) A1 (n - 1) (c - 1) (some ⟨g2, o2 + 16, none⟩) 7 (c2 - 1) :=
      hC7.upd hg hB10 (fun t ht => List.mem_cons_of_mem _ ht) (by have := hC7.tn; simp at this; omega) (by rw [List.length_drop, hC7.wn]) R1 R2 (fun u hu => hC7.wt u (List.mem_of_mem_drop hu))
    have Do := D7.but hg (by omega)
    have Dz := Do.drew
    have hHz : (w10).drew.cell? ⟨b, 6, none⟩ = some (.slice (some ⟨g2, o2 + 16, none⟩) 7 (c2 - 1)) := hCo.drew.blk.cell rfl
    refine wp_region_S (fun y => y.cell? ⟨b, 6, none⟩ = some (.slice (some ⟨g2, o2 + 16, none⟩) 7 (c2 - 1)) ∧ Blk y q3 101 ID) 10 11 (by kernel_rfl) rfl ?_
    have hHeld : (w10).drew.cell? ⟨b, 6, none⟩ = some (.slice (some ⟨g2, o2 + 16, none⟩) 7 (c2 - 1)) ∧ Blk (w10).drew q3 101 ID := ⟨hHz, Dz⟩
    simp only [List.replicate]
    (refine wpS_t 0 _ (by exact gE rfl) (by kernel_rfl) (by intro _ _ _ h; exact h) (Or.inl ⟨by rfl, (by intro _ h; (try dsimp only at h); go_simp; first | done | with_reducible rfl)⟩) (by assumption) ?_; (try simp only [Act.put, zs0, zs1, zs2]))
    (refine wpS_t 1 _ (by exact gE rfl) (by kernel_rfl) (by intro _ _ _ h; exact h) (Or.inl ⟨by rfl, (by intro _ h; (try dsimp only at h); go_simp; first | done | with_reducible rfl)⟩) (by assumption) ?_; (try simp only [Act.put, zs0, zs1, zs2]))
    (refine wpS_t 2 _ (by exact gE rfl) (by kernel_rfl) (by intro _ _ _ h; exact h) (Or.inl ⟨by rfl, (by intro _ h; (try dsimp only at h); go_simp; first | done | with_reducible rfl)⟩) (by assumption) ?_; (try simp only [Act.put, zs0, zs1, zs2]))
    (refine wpS_t 3 _ (by exact gE rfl) (by kernel_rfl) (by intro _ _ _ h; exact h) (Or.inl ⟨by rfl, (by intro _ h; (try dsimp only at h); go_simp; first | done | with_reducible rfl)⟩) (by assumption) ?_; (try simp only [Act.put, zs0, zs1, zs2]))
    (refine wpS_t 4 _ (by exact gE rfl) (by kernel_rfl) (by intro _ _ _ h; exact h) (Or.inl ⟨by rfl, (by intro _ h; (try dsimp only at h); go_simp; first | done | with_reducible rfl)⟩) (by assumption) ?_; (try simp only [Act.put, zs0, zs1, zs2]))
    refine wpS_take (i := 5) (v := .agg ID.toArray) (by exact gE rfl) (by kernel_rfl) (by kernel_rfl) (by kernel_rfl) (by kernel_rfl) (by decide) (by kernel_rfl) (by intro _ _ _ h; exact h) (yieldsIf_load_mid (by rfl) 101 _ (by rfl) q3 0 (by rfl) ID _ (fun w' h => h.2.range) Tryd.underlying101 rfl (by rw [hidc]; exact sizeId)) (by assumption) ?_
    (try simp only [Act.put, zs0, zs1, zs2])
    obtain ⟨wx, hwx⟩ : ∃ wx, wx = (w10).drew.alloc (.cells ID.toArray 101) := ⟨_, rfl⟩
    have bx : Below (w10).heap.size (w10) wx := by rw [hwx]; exact ((Below.refl _ _).drew).alloc (Nat.le_refl _) _
    have Nx : Blk wx (w10).heap.size 101 ID := by rw [hwx]; exact Blk.new _ _ _ _ rfl
    have hCx := hCo.below bx (Nat.le_refl _)
    have Dx := Do.below bx Do.lt
    (refine wpS_one (i := 6) (by exact gE rfl) (by kernel_rfl) (by rfl) ?_; (refine wp_build1 (.tmp 88) (by rfl) ID (by rfl) hidc ?_; rw [← hwx]; refine ⟨⟨hCx.blk.cell rfl, Dx⟩, ?_⟩); (try simp only [Act.put, zs0, zs1, zs2]))
    clear hwx
    have hbx : b ∉ fp (c2 - 1) g2 := fun hm => by
      obtain ⟨hc, e⟩ := fp_mem hm
      exact (hCx.ws.lt hc (by omega)).2 (by rw [← e]; simp)
    have hqx : q3 ∉ fp (c2 - 1) g2 := fun hm => by
      obtain ⟨hc, e⟩ := fp_mem hm
      omega
    (refine wpS_one (i := 7) (by exact gE rfl) (by kernel_rfl) (by rfl) ?_; (refine wp_append_rw 98 101 (.agg (byC (List.replicate 16 0)).toArray) 16 (.tmp 87) (.tmp 89) (by rfl) Tryd.underlying98 infoId (by rfl) (by omega) (by rfl) hCx.ws ⟨(w10).heap.size, 0, none⟩ 1 1 ID (by rfl) hidc (by omega) (cells2_of Nx) hid1 (by omega) (by omega) (by have := hCx.blk.lt; have := hCx.lt1; simp; omega) ?_; intro g4 A4 c4 w4 R4 K4 G4 L4; refine ⟨⟨(K4.blk hCx.blk hbx).cell rfl, K4.blk Dx hqx⟩, ?_⟩); (try simp only [Act.put, zs0, zs1, zs2]))
    have J4 := K4.blk hCx.blk hbx
    have hHeld4 : w4.cell? ⟨b, 6, none⟩ = some (.slice (some ⟨g2, o2 + 16, none⟩) 7 (c2 - 1)) ∧ Blk w4 q3 101 ID := ⟨J4.cell rfl, K4.blk Dx hqx⟩
    obtain ⟨wz, hwz⟩ : ∃ wz, wz = w4.setCell ⟨b, 6, none⟩ (.slice A4 (7 + 1) c4) := ⟨_, rfl⟩
    (refine wpS_one (i := 8) (by exact gE rfl) (by kernel_rfl) (by rfl) ?_; (go_simp); (try simp only [Act.put, zs0, zs1, zs2]))
    (refine wpS_one (i := 9) (by exact gE rfl) (by kernel_rfl) (by rfl) ?_; (go_simp); (try simp only [Act.put, zs0, zs1, zs2]))
    (refine wpS_st (i := 10) (by exact gE rfl) (by kernel_rfl) (by rfl) (by kernel_rfl) ?_; (refine wp_storef1 98 (.tmp 92) (.tmp 90) (by rfl) b 6 (by rfl) (.slice A4 (7 + 1) c4) (by rfl) (by rfl) (by simp [Value.oneCell']) 100 _ J4 (show 6 < 7 by omega) sizeIds ?_; rw [← hwz]); (try simp only [Act.put, zs0, zs1, zs2]))
    refine wpS_done (by kernel_rfl) ?_ _
    obtain ⟨hCz, hKz, zz⟩ := hCx.wpush (l := idB (N + 1) nonce) hidl (idB_byt _ _) (by rw [← HID.out]; exact R4) K4 G4 L4 hwz
    clear hHeld hHeld4 hHz hwz
    have zo : w7.heap.size ≤ (w10).heap.size := hg.size
    have zx : (w10).heap.size ≤ wx.heap.size := bx.size
    have zB7 := B7.size
    have Or := ((O7.grown hg (fun g e => by cases e; simp; omega)).below bx (Nat.le_refl _)).wide (lo' := w.heap.size) (by omega)
    have Cr : Ck wx w.heap.size [] (r, c7, MM) := ⟨Or, by simp⟩
    have Cz : Ck wz w.heap.size [b, g1, g4] (r, c7, MM) := Cr.kp hKz (by show r ∉ _; simp; omega) (by
      show r ∉ _
      rcases G4 with G4 | G4
      · simp; omega
      · simp; omega)
    have K1 : Kp w [b, g1, g2] w7 := Kp.of_below B7
    have K3 := (K1.but hg (.inr (by simp))).below bx (by omega)
    have K5 := K3.trans (kp_mono hKz (fun x hx => by
      have : x = b ∨ x = g2 := by simpa using hx
      rcases this with rfl | rfl <;> simp))
    have hW : wtN I (idB (N + 1) nonce) = I.drop 1 ++ [idB (N + 1) nonce] := by unfold wtN; first | rw [if_pos hC7.wn] | rw [if_neg (by rw [hC7.wn]; assumption)]
    have hG4 : g4 = g2 ∨ w.heap.size ≤ g4 := by rcases G4 with h | h; exact .inl h; exact .inr (by omega)
    have HW := Lib.hid hW
    clear hW hC7 hCo hCx Dx Do D7 J4 R4 K4 Nx bx hKz Cr Or O7 K1 K3 R1 hB7
    go_wp2
    go_ret2
    exact ⟨r, c7, N7, g4, A1, c - 1, A4, _, c4, rfl, by rw [HM.out]; exact HN7.out, by rw [HM.out]; exact Cz, by rw [HW.out]; exact hCz, K5, hG4⟩
  · have d28 : ((n2 : Int) == 8) = false := by simp; omega
    go_wp2_with (first
      | (refine wpl_loadf (by rfl) 22 _ (by rfl) b 5 (by rfl) _ _ hB7 _ rfl _ Tryd.underlying22 rfl ?_)
      | (refine wpl_storeg (by rfl) 22 _ _ (by rfl) b 5 (by rfl) (.int .u64 (N + 1)) (by rfl) (by rfl) (by simp [Value.oneCell']) _ _ (clL k0 k1 k2 k3 (some ⟨g1, o, none⟩) n c (N + 1) A2 n2 c2) hB7 (by simp) sizeU64' (by rfl) ?_; intro w8 hB8 s8 g8)
      | (refine wpl_loadf (by rfl) 51 _ (by rfl) b 4 (by rfl) _ _ hB8 _ rfl _ Tryd.underlying51 rfl ?_)
      | ((refine wpl_storeg (by rfl) 51 _ _ (by rfl) b 4 (by rfl) (.slice A1 (n - 1) (c - 1)) (by rfl) (by rfl) (by simp [Value.oneCell']) _ _ (clL k0 k1 k2 k3 A1 (n - 1) (c - 1) (N + 1) A2 n2 c2) hB8 (by simp) sizeSls (by rfl) ?_; intro w9 hB9 s9 g9))
      | (refine wpl_loadf (by rfl) 98 _ (by rfl) b 6 (by rfl) _ _ hB9 _ rfl _ Tryd.underlying98 rfl ?_))
    have hg := g8.trans g9
    have hCo : ClX w9 lo b g1 g2 k0 k1 k2 k3 T (N + 1) I A1 (n - 1) (c - 1) A2 n2 c2 :=
      hC7.upd hg hB9 (fun t ht => List.mem_cons_of_mem _ ht) (by have := hC7.tn; simp at this; omega) hC7.wn R1 hC7.ws hC7.wt
    have Do := D7.but hg (by omega)
    have Dz := Do.drew
    have hHz : (w9).drew.cell? ⟨b, 6, none⟩ = some (.slice (A2) n2 (c2)) := hCo.drew.blk.cell rfl
    refine wp_region_S (fun y => y.cell? ⟨b, 6, none⟩ = some (.slice (A2) n2 (c2)) ∧ Blk y q3 101 ID) 10 11 (by kernel_rfl) rfl ?_
    have hHeld : (w9).drew.cell? ⟨b, 6, none⟩ = some (.slice (A2) n2 (c2)) ∧ Blk (w9).drew q3 101 ID := ⟨hHz, Dz⟩
    simp only [List.replicate]
    (refine wpS_t 0 _ (by exact gE rfl) (by kernel_rfl) (by intro _ _ _ h; exact h) (Or.inl ⟨by rfl, (by intro _ h; (try dsimp only at h); go_simp; first | done | with_reducible rfl)⟩) (by assumption) ?_; (try simp only [Act.put, zs0, zs1, zs2]))
    (refine wpS_t 1 _ (by exact gE rfl) (by kernel_rfl) (by intro _ _ _ h; exact h) (Or.inl ⟨by rfl, (by intro _ h; (try dsimp only at h); go_simp; first | done | with_reducible rfl)⟩) (by assumption) ?_; (try simp only [Act.put, zs0, zs1, zs2]))
    (refine wpS_t 2 _ (by exact gE rfl) (by kernel_rfl) (by intro _ _ _ h; exact h) (Or.inl ⟨by rfl, (by intro _ h; (try dsimp only at h); go_simp; first | done | with_reducible rfl)⟩) (by assumption) ?_; (try simp only [Act.put, zs0, zs1, zs2]))
    (refine wpS_t 3 _ (by exact gE rfl) (by kernel_rfl) (by intro _ _ _ h; exact h) (Or.inl ⟨by rfl, (by intro _ h; (try dsimp only at h); go_simp; first | done | with_reducible rfl)⟩) (by assumption) ?_; (try simp only [Act.put, zs0, zs1, zs2]))
    (refine wpS_t 4 _ (by exact gE rfl) (by kernel_rfl) (by intro _ _ _ h; exact h) (Or.inl ⟨by rfl, (by intro _ h; (try dsimp only at h); go_simp; first | done | with_reducible rfl)⟩) (by assumption) ?_; (try simp only [Act.put, zs0, zs1, zs2]))
    refine wpS_take (i := 5) (v := .agg ID.toArray) (by exact gE rfl) (by kernel_rfl) (by kernel_rfl) (by kernel_rfl) (by kernel_rfl) (by decide) (by kernel_rfl) (by intro _ _ _ h; exact h) (yieldsIf_load_mid (by rfl) 101 _ (by rfl) q3 0 (by rfl) ID _ (fun w' h => h.2.range) Tryd.underlying101 rfl (by rw [hidc]; exact sizeId)) (by assumption) ?_
    (try simp only [Act.put, zs0, zs1, zs2])
    obtain ⟨wx, hwx⟩ : ∃ wx, wx = (w9).drew.alloc (.cells ID.toArray 101) := ⟨_, rfl⟩
    have bx : Below (w9).heap.size (w9) wx := by rw [hwx]; exact ((Below.refl _ _).drew).alloc (Nat.le_refl _) _
    have Nx : Blk wx (w9).heap.size 101 ID := by rw [hwx]; exact Blk.new _ _ _ _ rfl
    have hCx := hCo.below bx (Nat.le_refl _)
    have Dx := Do.below bx Do.lt
    (refine wpS_one (i := 6) (by exact gE rfl) (by kernel_rfl) (by rfl) ?_; (refine wp_build1 (.tmp 88) (by rfl) ID (by rfl) hidc ?_; rw [← hwx]; refine ⟨⟨hCx.blk.cell rfl, Dx⟩, ?_⟩); (try simp only [Act.put, zs0, zs1, zs2]))
    clear hwx
    have hbx : b ∉ fp (c2) g2 := fun hm => by
      obtain ⟨hc, e⟩ := fp_mem hm
      exact (hCx.ws.lt hc (by omega)).2 (by rw [← e]; simp)
    have hqx : q3 ∉ fp (c2) g2 := fun hm => by
      obtain ⟨hc, e⟩ := fp_mem hm
      omega
    (refine wpS_one (i := 7) (by exact gE rfl) (by kernel_rfl) (by rfl) ?_; (refine wp_append_rw 98 101 (.agg (byC (List.replicate 16 0)).toArray) 16 (.tmp 87) (.tmp 89) (by rfl) Tryd.underlying98 infoId (by rfl) (by omega) (by rfl) hCx.ws ⟨(w9).heap.size, 0, none⟩ 1 1 ID (by rfl) hidc (by omega) (cells2_of Nx) hid1 (by omega) (by omega) (by have := hCx.blk.lt; have := hCx.lt1; simp; omega) ?_; intro g4 A4 c4 w4 R4 K4 G4 L4; refine ⟨⟨(K4.blk hCx.blk hbx).cell rfl, K4.blk Dx hqx⟩, ?_⟩); (try simp only [Act.put, zs0, zs1, zs2]))
    have J4 := K4.blk hCx.blk hbx
    have hHeld4 : w4.cell? ⟨b, 6, none⟩ = some (.slice (A2) n2 (c2)) ∧ Blk w4 q3 101 ID := ⟨J4.cell rfl, K4.blk Dx hqx⟩
    obtain ⟨wz, hwz⟩ : ∃ wz, wz = w4.setCell ⟨b, 6, none⟩ (.slice A4 (n2 + 1) c4) := ⟨_, rfl⟩
    (refine wpS_one (i := 8) (by exact gE rfl) (by kernel_rfl) (by rfl) ?_; (go_simp); (try simp only [Act.put, zs0, zs1, zs2]))
    (refine wpS_one (i := 9) (by exact gE rfl) (by kernel_rfl) (by rfl) ?_; (go_simp); (try simp only [Act.put, zs0, zs1, zs2]))
    (refine wpS_st (i := 10) (by exact gE rfl) (by kernel_rfl) (by rfl) (by kernel_rfl) ?_; (refine wp_storef1 98 (.tmp 92) (.tmp 90) (by rfl) b 6 (by rfl) (.slice A4 (n2 + 1) c4) (by rfl) (by rfl) (by simp [Value.oneCell']) 100 _ J4 (show 6 < 7 by omega) sizeIds ?_; rw [← hwz]); (try simp only [Act.put, zs0, zs1, zs2]))
    refine wpS_done (by kernel_rfl) ?_ _
    obtain ⟨hCz, hKz, zz⟩ := hCx.wpush (l := idB (N + 1) nonce) hidl (idB_byt _ _) (by rw [← HID.out]; exact R4) K4 G4 L4 hwz
    clear hHeld hHeld4 hHz hwz
    have zo : w7.heap.size ≤ (w9).heap.size := hg.size
    have zx : (w9).heap.size ≤ wx.heap.size := bx.size
    have zB7 := B7.size
    have Or := ((O7.grown hg (fun g e => by cases e; simp; omega)).below bx (Nat.le_refl _)).wide (lo' := w.heap.size) (by omega)
    have Cr : Ck wx w.heap.size [] (r, c7, MM) := ⟨Or, by simp⟩
    have Cz : Ck wz w.heap.size [b, g1, g4] (r, c7, MM) := Cr.kp hKz (by show r ∉ _; simp; omega) (by
      show r ∉ _
      rcases G4 with G4 | G4
      · simp; omega
      · simp; omega)
    have K1 : Kp w [b, g1, g2] w7 := Kp.of_below B7
    have K3 := (K1.but hg (.inr (by simp))).below bx (by omega)
    have K5 := K3.trans (kp_mono hKz (fun x hx => by
      have : x = b ∨ x = g2 := by simpa using hx
      rcases this with rfl | rfl <;> simp))
    have hW : wtN I (idB (N + 1) nonce) = I ++ [idB (N + 1) nonce] := by unfold wtN; first | rw [if_pos hC7.wn] | rw [if_neg (by rw [hC7.wn]; assumption)]
    have hG4 : g4 = g2 ∨ w.heap.size ≤ g4 := by rcases G4 with h | h; exact .inl h; exact .inr (by omega)
    have HW := Lib.hid hW
    clear hW hC7 hCo hCx Dx Do D7 J4 R4 K4 Nx bx hKz Cr Or O7 K1 K3 R1 hB7
    go_wp2
    go_ret2
    exact ⟨r, c7, N7, g4, A1, c - 1, A4, _, c4, rfl, by rw [HM.out]; exact HN7.out, by rw [HM.out]; exact Cz, by rw [HW.out]; exact hCz, K5, hG4⟩
end Go.Proofs.YtachhbbofemfdaaDoor
namespace Go.Proofs.YtachhbbofemfdaaDoor
open Go.RowKit
set_option linter.unusedSimpArgs false
set_option linter.unusedVariables false
set_option maxRecDepth 100000
theorem flat_at : ∀ (I : List (List Int)), (∀ l ∈ I, l.length = 16 ∧ Byt l) → ∀ (k : Nat) (hk : k < I.length) (j : Nat), j < 16 → (I.flatMap byC)[k * 16 + j]? = (byC I[k])[j]?
  | [], _, k, hk, _, _ => absurd hk (by simp)
  | l :: r, h, 0, _, j, hj => by
    have hl := (h l (List.mem_cons_self ..)).1
    rw [List.flatMap_cons, Nat.zero_mul, Nat.zero_add, List.getElem?_append_left (by rw [List.length_map]; omega)]
    rfl
  | l :: r, h, k + 1, hk, j, hj => by
    have hl := (h l (List.mem_cons_self ..)).1
    have hb : (byC l).length = 16 := by rw [List.length_map]; exact hl
    rw [List.flatMap_cons, List.getElem?_append_right (by omega), hb, show (k + 1) * 16 + j - 16 = k * 16 + j by omega]
    exact flat_at r (fun x hx => h x (List.mem_cons_of_mem _ hx)) k (by simpa using hk) j hj
/-- the place of an identifier, or -1 -/
def fiI (I : List (List Int)) (x : List Int) : Int := match I.findIdx? (· == x) with | some k => (k : Int) | none => -1
theorem fiI_some {I : List (List Int)} {x : List Int} {k : Nat} (hk : k < I.length) (h : I[k] = x) (hno : ∀ j (hj : j < k), I[j]'(by omega) ≠ x) : fiI I x = k := by
  unfold fiI
  have e : I.findIdx? (· == x) = some k := by
    rw [List.findIdx?_eq_some_iff_getElem]
    exact ⟨hk, by simpa using h, fun j hj => by simpa using hno j hj⟩
  rw [e]
theorem fiI_none {I : List (List Int)} {x : List Int} (hno : ∀ j (hj : j < I.length), I[j] ≠ x) : fiI I x = -1 := by
  unfold fiI
  have e : I.findIdx? (· == x) = none := by
    rw [List.findIdx?_eq_none_iff]
    intro y hy
    obtain ⟨j, hj, rfl⟩ := List.mem_iff_getElem.1 hy
    simpa using hno j hj
  rw [e]
set_option maxRecDepth 100000 in
set_option maxHeartbeats 8000000 in
theorem find_id (w : World) {lo b g1 g2 : Nat} {k0 k1 k2 k3 N : Int} {T : List CkT} {I : List (List Int)} {A A2 : Option Addr} {n c n2 c2 : Nat} (h : ClX w lo b g1 g2 k0 k1 k2 k3 T N I A n c A2 n2 c2) (B : Option Addr) (d : Nat) (x : List Int) (hx : x.length = 16) (hB : Bs w 0 w.heap.size B x) (hn2 : n2 ≤ 1000000) :
    Calls Tryd.prog 49 #[.pointer (some ⟨b, 0, none⟩), .slice B 16 d] w fun e w' => e = .returned (.int .i64 (fiI I x)) ∧ Below w.heap.size w w' := by
  have hBk := h.blk
  have hI := h.wn
  have hz : (byC (List.replicate 16 0)).length = 16 := rfl
  obtain ⟨Z, hZ⟩ : ∃ Z, byC (List.replicate 16 0) = Z := ⟨_, rfl⟩
  have hzero := zeroId
  rw [hZ] at hzero hz
  clear hZ
  go_enter Tryd.func49, Tryd.ntmps49
  go_wp2_with (first | (refine wpl_loadf (by rfl) 98 _ (by rfl) b 6 (by rfl) _ _ hBk _ rfl _ Tryd.underlying98 rfl ?_))
  go_loopw [12] (fun i wr => ∃ k : Nat, k ≤ n2 ∧ i = .int .i64 k ∧ Hid (∀ j (hj : j < I.length), j < k → I[j] ≠ x) ∧ Below w.heap.size w wr) (fun i _ => n2 - (intOf i).toNat)
  case atStart => exact ⟨0, by omega, rfl, fun j hj h => absurd h (by omega), Below.refl _ _⟩
  case round =>
    obtain ⟨k, hk, rfl, hN, hBw⟩ := hrel
    obtain ⟨wo, rfl⟩ : ∃ wo : World, wo = wr := ⟨wr, rfl⟩
    by_cases hlt : k < n2
    · have hC := h.below hBw (Nat.le_refl _)
      obtain ⟨o, rfl, hat⟩ := hC.ws.at (k := k) hlt (by omega)
      have hmem : I[k] ∈ I := List.getElem_mem (by omega)
      obtain ⟨hl16, hlb⟩ := hC.wt _ hmem
      have hrg : wo.rangeAt g2 (o + k * 16) (byC I[k]) := fun j v hv => by
        have hj : j < 16 := by have := (List.getElem?_eq_some_iff.1 hv).1; rw [List.length_map] at this; omega
        rw [hat j hj, flat_at I hC.wt k (by omega) j hj]
        exact hv
      obtain ⟨Y, hY⟩ : ∃ Y, Y = I[k] := ⟨_, rfl⟩
      rw [← hY] at hl16 hlb hrg
      have hHY := Lib.hid hY
      clear hat hmem hY
      have hi0 : (0 : Int) ≤ k := by omega
      have hi1 : (k : Int) < n2 := by omega
      have hYc : (byC Y).length = 16 := by rw [List.length_map]; exact hl16
      go_wp2_with (first
        | (refine wpl_loadr (by rfl) 101 _ (by rfl) g2 (o + k * 16) (by rfl) (byC Y) hrg _ Tryd.underlying101 rfl _ sizeId hYc ?_)
        | ((refine wpl_alloc (by rfl) 101 (by rfl) (.agg (Z).toArray) (Z) hzero rfl ?_; intro w1 D1 s1 b1))
        | (refine wpl_store (by rfl) 101 _ _ (by rfl) wo.heap.size (by rfl) _ (by rfl) (byC Y) rfl 101 _ D1 (hz.trans hYc.symm) _ sizeId hYc (oneCellU8 _) ?_; intro w2 D2 s2 g2'))
      have B2 : Below w.heap.size w w2 := (hBw.trans (b1.mono hBw.size)).trans (But.below (g := wo.heap.size) g2' (by have := hBw.size; omega) hBw.size)
      have v1 : (convert 23 9 (.slice (some ⟨wo.heap.size, 0, none⟩) 16 16)).run Tryd.prog w2.drew = .ok (.string (strOf Y)) w2.drew := strOf_conv' hl16 (blk_bs D2.drew hlb)
      have v2 : (convert 23 9 (.slice B 16 d)).run Tryd.prog w2.drew = .ok (.string (strOf x)) w2.drew := strOf_conv' hx ((hB.below B2 (Nat.le_refl _)).drew)
      have hE : ((strOf Y).toList == (strOf x).toList) = decide (Y = x) := by
        rw [Bool.eq_iff_iff, beq_iff_eq, decide_eq_true_eq, ByteArray.toList_eq, ByteArray.toList_eq, ← strOf_inj hlb hB.byt]
        exact ⟨fun h => WideShapes.bytes_inj h, fun h => by rw [h]⟩
      generalize strOf Y = s at v1 hE
      generalize strOf x = t at v2 hE
      clear D1 b1 g2' hrg hC hBk h
      by_cases heq : Y = x
      · rw [decide_eq_true heq] at hE
        have hF := Lib.hid (fiI_some (I := I) (x := x) (k := k) (by omega) (by rw [← hHY.out]; exact heq) (fun j hj => hN.out j (by omega) hj))
        clear heq
        refine wp_region_det (fun y => y = w2.drew) 5 (by kernel_rfl) rfl (by rfl) ?_
        simp only [List.replicate]
        (refine wpD_t 0 _ (by exact gE rfl) (by kernel_rfl) (by rfl) (YS.of_value (by intro _ h; (try dsimp only at h); go_simp; first | done | with_reducible rfl)) ?_; (try simp only [Act.put, zs0, zs1, zs2]))
        (refine wpD_t 1 _ (by exact gE rfl) (by kernel_rfl) (by rfl) (YS.of_value (by intro _ h; (try dsimp only at h); go_simp; first | done | with_reducible rfl)) ?_; (try simp only [Act.put, zs0, zs1, zs2]))
        (refine wpD_t 2 _ (by exact gE rfl) (by kernel_rfl) (by rfl) (YS.of_value (by intro _ h; (try dsimp only at h); go_simp; first | done | with_reducible rfl)) ?_; (try simp only [Act.put, zs0, zs1, zs2]))
        (refine wpD_t 3 _ (by exact gE rfl) (by kernel_rfl) (by rfl) (YS.of_value (by intro _ h; (try dsimp only at h); go_simp; first | done | with_reducible rfl)) ?_; (try simp only [Act.put, zs0, zs1, zs2]))
        (refine wpD_t 4 _ (by exact gE rfl) (by kernel_rfl) (by rfl) (YS.of_value (by intro _ h; (try dsimp only at h); go_simp; first | done | with_reducible rfl)) ?_; (try simp only [Act.put, zs0, zs1, zs2]))
        refine wpD_done (by kernel_rfl) ?_ _
        rintro _ rfl
        go_wp2
        go_ret
        exact ⟨by rw [hF.out]; rfl, B2.drew⟩
      · rw [decide_eq_false heq] at hE
        have hN' : Hid (∀ j (hj : j < I.length), j < k + 1 → I[j] ≠ x) := fun j hj hjk => by
          rcases Nat.lt_or_ge j k with q | q
          · exact hN.out j hj q
          · obtain rfl : j = k := by omega
            rw [← hHY.out]; exact heq
        clear heq hN
        refine wp_region_det (fun y => y = w2.drew) 5 (by kernel_rfl) rfl (by rfl) ?_
        simp only [List.replicate]
        (refine wpD_t 0 _ (by exact gE rfl) (by kernel_rfl) (by rfl) (YS.of_value (by intro _ h; (try dsimp only at h); go_simp; first | done | with_reducible rfl)) ?_; (try simp only [Act.put, zs0, zs1, zs2]))
        (refine wpD_t 1 _ (by exact gE rfl) (by kernel_rfl) (by rfl) (YS.of_value (by intro _ h; (try dsimp only at h); go_simp; first | done | with_reducible rfl)) ?_; (try simp only [Act.put, zs0, zs1, zs2]))
        (refine wpD_t 2 _ (by exact gE rfl) (by kernel_rfl) (by rfl) (YS.of_value (by intro _ h; (try dsimp only at h); go_simp; first | done | with_reducible rfl)) ?_; (try simp only [Act.put, zs0, zs1, zs2]))
        (refine wpD_t 3 _ (by exact gE rfl) (by kernel_rfl) (by rfl) (YS.of_value (by intro _ h; (try dsimp only at h); go_simp; first | done | with_reducible rfl)) ?_; (try simp only [Act.put, zs0, zs1, zs2]))
        (refine wpD_t 4 _ (by exact gE rfl) (by kernel_rfl) (by rfl) (YS.of_value (by intro _ h; (try dsimp only at h); go_simp; first | done | with_reducible rfl)) ?_; (try simp only [Act.put, zs0, zs1, zs2]))
        refine wpD_done (by kernel_rfl) ?_ _
        rintro _ rfl
        go_wp2_with fail
        exact ⟨⟨k + 1, by omega, by go_num, hN', B2.drew⟩, by simp [intOf]; omega⟩
    · obtain rfl : k = n2 := by omega
      have hF := Lib.hid (fiI_none (I := I) (x := x) (fun j hj => hN.out j hj (by omega)))
      go_wp2
      go_ret
      exact ⟨by rw [hF.out]; rfl, hBw⟩
end Go.Proofs.YtachhbbofemfdaaDoor
namespace Go.Proofs.YtachhbbofemfdaaDoor
open Go.RowKit
set_option linter.unusedSimpArgs false
set_option linter.unusedVariables false
set_option maxRecDepth 100000
def spB (b : List Int) : List Int := b.take (b.length - 12)
theorem spB_len {b : List Int} {n : Nat} (hn : b.length = n) : (spB b).length = n - 12 := by unfold spB; rw [List.length_take, hn]; omega
theorem spL_len {b : List Int} (hb : Byt b) : (spL b).length ≤ 16 := by
  have hR : Byt (dcR b) := by unfold dcR; split; exact hb.drop _; exact Byt.nil
  obtain ⟨h1, h2⟩ := prs_back hR
  unfold spL
  by_cases hE : prsE (dcR b) = 0
  · exact (h1 hE).2.2.1
  · rw [(h2 hE).1]; simp
set_option maxRecDepth 100000 in
set_option maxHeartbeats 4000000 in
theorem acc_nil (A : Option Addr) (n c : Nat) (w : World) : Calls Tryd.prog 24 #[.pointer none, .slice A n c] w fun e w' => e = .returned (.tuple #[ntp0, .slice none 0 0, .int .i64 1]) ∧ Below w.heap.size w w' := by
  go_enter Tryd.func24, Tryd.ntmps24
  go_wp2_with (first
    | (refine wpl_alloc (by rfl) 27 (by rfl) (.agg (zN).toArray) (zN) zeroNtp rfl ?_; intro w1 J1 s1 b1)
    | (refine wpl_store (by rfl) 27 _ _ (by rfl) w.heap.size (by rfl) _ (by rfl) _ rfl 27 _ J1 (by rfl) _ sizeNtp (by rfl) (by simp [Value.oneCell']) ?_; intro w2 J2 s2 g2))
  refine bodyPost_ret (res_cxy Tryd.results24 (by rfl) J2 Tryd.underlying27 rfl sizeNtp (by rfl) (by rfl) (by rfl)) rfl ?_
  exact ⟨rfl, b1.trans (g2.below (by omega) (Nat.le_refl _))⟩
set_option maxRecDepth 100000 in
set_option maxHeartbeats 4000000 in
theorem acc_err (bc : Nat) (A : Option Addr) (n c : Nat) (b : List Int) (w : World) (hn : b.length = n) (h : Bs w 0 w.heap.size A b) (hnc : n ≤ c) (hc : c ≤ 9223372036854775807) (hm : n ≤ 1000000) (hE : spE b ≠ 0) :
    Calls Tryd.prog 24 #[.pointer (some ⟨bc, 0, none⟩), .slice A n c] w fun e w' => e = .returned (.tuple #[ntp0, .slice none 0 0, .int .i64 (spE b)]) ∧ Below w.heap.size w w' := by
  have hS := fun W hB => split_err A n c b W hn hB hnc hc hm hE
  have hE' : (spE b != 0) = true := by simpa using hE
  generalize spE b = E at hS hE' ⊢
  clear hE
  go_enter Tryd.func24, Tryd.ntmps24
  go_wp2_with (first
    | (refine wpl_alloc (by rfl) 27 (by rfl) (.agg (zN).toArray) (zN) zeroNtp rfl ?_; intro w1 J1 s1 b1)
    | (go_at_call 30; ((with_reducible refine (hS _ ((h.below b1 (Nat.le_refl _)).wide (Nat.le_refl _) b1.size)).mono ?_); rintro e w2 ⟨rfl, b2⟩; (have J2 := J1.below b2 (by omega)); (have B2 := b1.trans (b2.mono b1.size))))
    | ((refine wpl_alloc (by rfl) 75 (by rfl) (.agg (ptZ).toArray) (ptZ) zeroPt rfl ?_; intro w3 T3 s3 b3); (have J3 := J2.below b3 J2.lt); (have B3 := B2.trans (b3.mono B2.size)))
    | ((refine wpl_store (by rfl) 75 _ _ (by rfl) w2.heap.size (by rfl) _ (by rfl) _ rfl 75 _ T3 (by rfl) _ sizePt (by rfl) (by simp [Value.oneCell']) ?_; intro w4 T4 s4 g4); (have J4 := J3.but g4 (Nat.ne_of_lt J2.lt)); (have B4 := B3.trans (g4.below B3.size B2.size)))
    | (refine wpl_store (by rfl) 27 _ _ (by rfl) w.heap.size (by rfl) _ (by rfl) _ rfl 27 _ J4 (by rfl) _ sizeNtp (by rfl) (by simp [Value.oneCell']) ?_; intro w5 J5 s5 g5))
  refine bodyPost_ret (res_cxy Tryd.results24 (by rfl) J5 Tryd.underlying27 rfl sizeNtp (by rfl) (by rfl) (by rfl)) rfl ?_
  exact ⟨rfl, B4.trans (g5.below B4.size (Nat.le_refl _))⟩
set_option maxRecDepth 100000 in
set_option maxHeartbeats 8000000 in
theorem acc_tag (w : World) {lo bc g1 g2 : Nat} {k0 k1 k2 k3 N : Int} {T : List CkT} {I : List (List Int)} {Ac A2c : Option Addr} {nc cc n2c c2c : Nat} (hC : ClX w lo bc g1 g2 k0 k1 k2 k3 T N I Ac nc cc A2c n2c c2c) (hk2 : U64 k2) (hk3 : U64 k3) (hR : Rnd w) (hn8 : nc ≤ 8) (hn28 : n2c ≤ 8)
    (A : Option Addr) (n c : Nat) (b : List Int) (hn : b.length = n) (h : Bs w 0 w.heap.size A b) (hnc : n ≤ c) (hc : c ≤ 9223372036854775807) (hm : n ≤ 1000000) (hE : spE b = 0) (l v m st po pr rd rp id ref org rec xmt : Int) (hV : dcV b = ntp l v m st po pr rd rp id ref org rec xmt) (hT : prvB k2 k3 (spB b) (spA b) = false) :
    Calls Tryd.prog 24 #[.pointer (some ⟨bc, 0, none⟩), .slice A n c] w fun e w' => e = .returned (.tuple #[ntp0, .slice none 0 0, .int .i64 16]) ∧ Below w.heap.size w w' := by
  have hS := fun W hB => split_ok A n c b W hn hB hnc hc hm hE l v m st po pr rd rp id ref org rec xmt hV
  obtain ⟨hI16, hA12⟩ : (spI b).length = 16 ∧ (spA b).length = 12 := by
    rcases spE_cases b with ⟨h1, h2⟩ | ⟨h1, h2, h3⟩ | ⟨h1, h2, h3, h4⟩ | ⟨h1, h2, h3, h4, h5⟩
    · exact absurd (h2.symm.trans hE) h1
    · exact absurd (h3.symm.trans hE) h2
    · rw [h4] at hE; cases hE
    · exact ⟨h4, h3⟩
  have hDl := spB_len hn
  have hDb : Bs w 0 w.heap.size A (spB b) := h.take _
  have hP := fun A1 n1 c1 A2 n2 c2 A4 c4 W h3 h4 hc4 hcc4 hR => proved_any l v m st po pr rd rp id ref org rec xmt A1 n1 c1 A2 n2 c2 A (n - 12) c A4 c4 k2 k3 (spB b) (spA b) W hDl h3 (by omega) (by omega) hc hA12 h4 hc4 hcc4 hk2 hk3 hR
  generalize hPV : prvB k2 k3 (spB b) (spA b) = PV at hP
  generalize spB b = D at hP hDb
  generalize hID : spI b = ID at hS hI16
  generalize spA b = AU at hS hP hA12
  have hL16 := spL_len h.byt
  generalize hLL : spL b = L at hS hL16
  have hHI := Lib.hid hI16
  have hHA := Lib.hid hA12
  have HID := Lib.hid hID
  have HLL := Lib.hid hLL
  have HPV := Lib.hid hPV
  clear hE hV hn hI16 hA12 hDl hID hLL hPV
  have hPV' : PV = false := HPV.out.symm.trans hT
  subst hPV'
  clear hT HPV
  go_enter Tryd.func24, Tryd.ntmps24
  go_wp2_with (first
    | (refine wpl_alloc (by rfl) 27 (by rfl) (.agg (zN).toArray) (zN) zeroNtp rfl ?_; intro w1 J1 s1 b1)
    | (go_at_call 30; ((with_reducible refine (hS _ ((h.below b1 (Nat.le_refl _)).wide (Nat.le_refl _) b1.size)).mono ?_); rintro e w2 ⟨P1, p1, q1, P2, q2, P4, q4, rfl, hL1, X2, OI2, OA2, b2⟩; (have J2 := J1.below b2 (by omega)); (have B2 := b1.trans (b2.mono b1.size))))
    | ((refine wpl_alloc (by rfl) 75 (by rfl) (.agg (ptZ).toArray) (ptZ) zeroPt rfl ?_; intro w3 T3 s3 b3); (have J3 := J2.below b3 J2.lt); (have B3 := B2.trans (b3.mono B2.size)))
    | ((refine wpl_store (by rfl) 75 _ _ (by rfl) w2.heap.size (by rfl) _ (by rfl) _ rfl 75 _ T3 (by rfl) _ sizePt (by rfl) (by simp [Value.oneCell']) ?_; intro w4 T4 s4 g4); (have J4 := J3.but g4 (Nat.ne_of_lt J2.lt)); (have B4 := B3.trans (g4.below B3.size B2.size)); (have hl12 : w.heap.size < w1.heap.size := J1.lt)))
  have B24 : Below w2.heap.size w2 w4 := b3.trans (g4.below (Nat.le_of_lt s3) (Nat.le_refl _))
  have X4 := X2.below B24 (Nat.le_refl _)
  have OI4 := OI2.below B24 (Nat.le_refl _)
  have OA4 := OA2.below B24 (Nat.le_refl _)
  have hC4 := hC.below B4 (Nat.le_refl _)
  have hR4 := hR.below B4 hR.lt
  have hD4 := (hDb.below B4 (Nat.le_refl _)).wide (Nat.le_refl _) B4.size
  have z12 := b2.size
  have zq2 := OI2.cap_le
  have zq4 := OA2.cap_le
  have zm4 := OA2.cap_max
  rw [hHI.out] at zq2
  rw [hHA.out] at zq4
  have z24 := T4.lt
  clear b1 b2 b3 g4 B2 B3 X2 OI2 OA2 J1 J2 J3 T3 hS s1 s3 s4 B24
  generalize hpb : w2.heap.size = pb at *
  refine wp_region_heldL (fun y => Blk y pb 75 (ptL l v m st po pr rd rp id ref org rec xmt P1 p1 q1 P2 16 q2 A (n - 12) c P4 12 q4) ∧ Blk y bc 100 (clL k0 k1 k2 k3 Ac nc cc N A2c n2c c2c)) 7 (by kernel_rfl) rfl ⟨T4.drew, hC4.blk.drew⟩ fun hHeld => ?_
  simp only [List.replicate]
  refine wpH_t 0 (.agg (ptL l v m st po pr rd rp id ref org rec xmt P1 p1 q1 P2 16 q2 A (n - 12) c P4 12 q4).toArray) (by exact gE rfl) (by kernel_rfl) (by intro _ _ _ h; exact h) (yieldsIf_load_mid (by rfl) 75 _ (by rfl) pb 0 (by rfl) (ptL l v m st po pr rd rp id ref org rec xmt P1 p1 q1 P2 16 q2 A (n - 12) c P4 12 q4) _ (fun w' h => h.1.range) Tryd.underlying75 rfl sizePt) (by assumption) ?_
  (try simp only [Act.put, zs0, zs1, zs2])
  (refine wpH_t 1 _ (by exact gE rfl) (by kernel_rfl) (by intro _ _ _ h; exact h) (Or.inl ⟨by rfl, (by intro _ h; (try dsimp only at h); go_simp; first | done | with_reducible rfl)⟩) (by assumption) ?_; (try simp only [Act.put, zs0, zs1, zs2]))
  (refine wpH_t 2 _ (by exact gE rfl) (by kernel_rfl) (by intro _ _ _ h; exact h) (Or.inl ⟨by rfl, (by intro _ h; (try dsimp only at h); go_simp; first | done | with_reducible rfl)⟩) (by assumption) ?_; (try simp only [Act.put, zs0, zs1, zs2]))
  (refine wpH_t 3 _ (by exact gE rfl) (by kernel_rfl) (by intro _ _ _ h; exact h) (Or.inl ⟨by rfl, (by intro _ h; (try dsimp only at h); go_simp; first | done | with_reducible rfl)⟩) (by assumption) ?_; (try simp only [Act.put, zs0, zs1, zs2]))
  refine wpH_take (i := 4) (v := .agg (keyL k2 k3).toArray) (by exact gE rfl) (by kernel_rfl) (by kernel_rfl) (by kernel_rfl) (by intro _ _ _ h; exact h) (yieldsIf_load_mid (by rfl) 29 _ (by rfl) bc 2 (by rfl) (keyL k2 k3) _ (fun w' h => Blk.mid h.2 2 (keyL k2 k3) rfl) Tryd.underlying29 rfl sizeKey) (by assumption) ?_
  (try simp only [Act.put, zs0, zs1, zs2])
  have hPE := hP P1 p1 q1 P2 16 q2 P4 q4 w4.drew hD4.drew ((OA4.bs.wide (Nat.zero_le _) (Nat.le_refl _)).drew) zq4 zm4 hR4.drew
  (refine wpH_one (i := 5) (by exact gE rfl) (by kernel_rfl) (by rfl) ?_; (go_simp; (with_reducible refine hPE.mono ?_); rintro e w5 ⟨rfl, b5⟩; refine ⟨⟨T4.drew.below b5 T4.lt, hC4.blk.drew.below b5 hC4.blk.lt⟩, ?_⟩); (try simp only [Act.put, zs0, zs1, zs2]))
  have hHeld5 : Blk w5 pb 75 (ptL l v m st po pr rd rp id ref org rec xmt P1 p1 q1 P2 16 q2 A (n - 12) c P4 12 q4) ∧ Blk w5 bc 100 (clL k0 k1 k2 k3 Ac nc cc N A2c n2c c2c) := ⟨T4.drew.below b5 T4.lt, hC4.blk.drew.below b5 hC4.blk.lt⟩
  (refine wpH_t 6 _ (by exact gE rfl) (by kernel_rfl) (by intro _ _ _ h; exact h) (Or.inl ⟨by rfl, (by intro _ h; (try dsimp only at h); go_simp; first | done | with_reducible rfl)⟩) (by assumption) ?_; (try simp only [Act.put, zs0, zs1, zs2]))
  refine wpH_done (by kernel_rfl) ?_ _
  have T5 := hHeld5.1
  have X5 := X4.drew.below b5 (Nat.le_refl _)
  have OI5 := OI4.drew.below b5 (Nat.le_refl _)
  have J5 := J4.drew.below b5 J4.lt
  have hC5 := hC4.drew.below b5 (Nat.le_refl _)
  have B5 := B4.drew.trans (b5.mono B4.size)
  have z45 : w4.heap.size ≤ w5.heap.size := b5.size
  clear hHeld hHeld5 hPE hP X4 OI4 OA4 hC4 hR4 hD4 J4 T4 b5 B4
  go_wp2_with (first
    | (refine wpl_store (by rfl) 27 _ _ (by rfl) w.heap.size (by rfl) _ (by rfl) _ rfl 27 _ J5 (by rfl) _ sizeNtp (by rfl) (by simp [Value.oneCell']) ?_; intro w6 J6 s6 g6))
  refine bodyPost_ret (res_cxy Tryd.results24 (by rfl) J6 Tryd.underlying27 rfl sizeNtp (by rfl) (by rfl) (by rfl)) rfl ?_
  exact ⟨rfl, B5.trans (g6.below B5.size (Nat.le_refl _))⟩
set_option maxRecDepth 100000 in
set_option maxHeartbeats 8000000 in
theorem acc_none (w : World) {lo bc g1 g2 : Nat} {k0 k1 k2 k3 N : Int} {T : List CkT} {I : List (List Int)} {Ac A2c : Option Addr} {nc cc n2c c2c : Nat} (hC : ClX w lo bc g1 g2 k0 k1 k2 k3 T N I Ac nc cc A2c n2c c2c) (hk2 : U64 k2) (hk3 : U64 k3) (hR : Rnd w) (hn8 : nc ≤ 8) (hn28 : n2c ≤ 8)
    (A : Option Addr) (n c : Nat) (b : List Int) (hn : b.length = n) (h : Bs w 0 w.heap.size A b) (hnc : n ≤ c) (hc : c ≤ 9223372036854775807) (hm : n ≤ 1000000) (hE : spE b = 0) (l v m st po pr rd rp id ref org rec xmt : Int) (hV : dcV b = ntp l v m st po pr rd rp id ref org rec xmt) (hT : prvB k2 k3 (spB b) (spA b) = true) (hF : fiI I (spI b) = -1) :
    Calls Tryd.prog 24 #[.pointer (some ⟨bc, 0, none⟩), .slice A n c] w fun e w' => e = .returned (.tuple #[ntp0, .slice none 0 0, .int .i64 11]) ∧ Below w.heap.size w w' := by
  have hS := fun W hB => split_ok A n c b W hn hB hnc hc hm hE l v m st po pr rd rp id ref org rec xmt hV
  obtain ⟨hI16, hA12⟩ : (spI b).length = 16 ∧ (spA b).length = 12 := by
    rcases spE_cases b with ⟨h1, h2⟩ | ⟨h1, h2, h3⟩ | ⟨h1, h2, h3, h4⟩ | ⟨h1, h2, h3, h4, h5⟩
    · exact absurd (h2.symm.trans hE) h1
    · exact absurd (h3.symm.trans hE) h2
    · rw [h4] at hE; cases hE
    · exact ⟨h4, h3⟩
  have hDl := spB_len hn
  have hDb : Bs w 0 w.heap.size A (spB b) := h.take _
  have hP := fun A1 n1 c1 A2 n2 c2 A4 c4 W h3 h4 hc4 hcc4 hR => proved_any l v m st po pr rd rp id ref org rec xmt A1 n1 c1 A2 n2 c2 A (n - 12) c A4 c4 k2 k3 (spB b) (spA b) W hDl h3 (by omega) (by omega) hc hA12 h4 hc4 hcc4 hk2 hk3 hR
  generalize hPV : prvB k2 k3 (spB b) (spA b) = PV at hP
  generalize spB b = D at hP hDb
  generalize hID : spI b = ID at hS hI16
  generalize spA b = AU at hS hP hA12
  have hL16 := spL_len h.byt
  generalize hLL : spL b = L at hS hL16
  have hHI := Lib.hid hI16
  have hHA := Lib.hid hA12
  have HID := Lib.hid hID
  have HLL := Lib.hid hLL
  have HPV := Lib.hid hPV
  clear hE hV hn hI16 hA12 hDl hID hLL hPV
  have hPV' : PV = true := HPV.out.symm.trans hT
  subst hPV'
  rw [HID.out] at hF
  have HF := Lib.hid hF
  clear hF
  clear hT HPV
  go_enter Tryd.func24, Tryd.ntmps24
  go_wp2_with (first
    | (refine wpl_alloc (by rfl) 27 (by rfl) (.agg (zN).toArray) (zN) zeroNtp rfl ?_; intro w1 J1 s1 b1)
    | (go_at_call 30; ((with_reducible refine (hS _ ((h.below b1 (Nat.le_refl _)).wide (Nat.le_refl _) b1.size)).mono ?_); rintro e w2 ⟨P1, p1, q1, P2, q2, P4, q4, rfl, hL1, X2, OI2, OA2, b2⟩; (have J2 := J1.below b2 (by omega)); (have B2 := b1.trans (b2.mono b1.size))))
    | ((refine wpl_alloc (by rfl) 75 (by rfl) (.agg (ptZ).toArray) (ptZ) zeroPt rfl ?_; intro w3 T3 s3 b3); (have J3 := J2.below b3 J2.lt); (have B3 := B2.trans (b3.mono B2.size)))
    | ((refine wpl_store (by rfl) 75 _ _ (by rfl) w2.heap.size (by rfl) _ (by rfl) _ rfl 75 _ T3 (by rfl) _ sizePt (by rfl) (by simp [Value.oneCell']) ?_; intro w4 T4 s4 g4); (have J4 := J3.but g4 (Nat.ne_of_lt J2.lt)); (have B4 := B3.trans (g4.below B3.size B2.size)); (have hl12 : w.heap.size < w1.heap.size := J1.lt)))
  have B24 : Below w2.heap.size w2 w4 := b3.trans (g4.below (Nat.le_of_lt s3) (Nat.le_refl _))
  have X4 := X2.below B24 (Nat.le_refl _)
  have OI4 := OI2.below B24 (Nat.le_refl _)
  have OA4 := OA2.below B24 (Nat.le_refl _)
  have hC4 := hC.below B4 (Nat.le_refl _)
  have hR4 := hR.below B4 hR.lt
  have hD4 := (hDb.below B4 (Nat.le_refl _)).wide (Nat.le_refl _) B4.size
  have z12 := b2.size
  have zq2 := OI2.cap_le
  have zq4 := OA2.cap_le
  have zm4 := OA2.cap_max
  rw [hHI.out] at zq2
  rw [hHA.out] at zq4
  have z24 := T4.lt
  clear b1 b2 b3 g4 B2 B3 X2 OI2 OA2 J1 J2 J3 T3 hS s1 s3 s4 B24
  generalize hpb : w2.heap.size = pb at *
  refine wp_region_heldL (fun y => Blk y pb 75 (ptL l v m st po pr rd rp id ref org rec xmt P1 p1 q1 P2 16 q2 A (n - 12) c P4 12 q4) ∧ Blk y bc 100 (clL k0 k1 k2 k3 Ac nc cc N A2c n2c c2c)) 7 (by kernel_rfl) rfl ⟨T4.drew, hC4.blk.drew⟩ fun hHeld => ?_
  simp only [List.replicate]
  refine wpH_t 0 (.agg (ptL l v m st po pr rd rp id ref org rec xmt P1 p1 q1 P2 16 q2 A (n - 12) c P4 12 q4).toArray) (by exact gE rfl) (by kernel_rfl) (by intro _ _ _ h; exact h) (yieldsIf_load_mid (by rfl) 75 _ (by rfl) pb 0 (by rfl) (ptL l v m st po pr rd rp id ref org rec xmt P1 p1 q1 P2 16 q2 A (n - 12) c P4 12 q4) _ (fun w' h => h.1.range) Tryd.underlying75 rfl sizePt) (by assumption) ?_
  (try simp only [Act.put, zs0, zs1, zs2])
  (refine wpH_t 1 _ (by exact gE rfl) (by kernel_rfl) (by intro _ _ _ h; exact h) (Or.inl ⟨by rfl, (by intro _ h; (try dsimp only at h); go_simp; first | done | with_reducible rfl)⟩) (by assumption) ?_; (try simp only [Act.put, zs0, zs1, zs2]))
  (refine wpH_t 2 _ (by exact gE rfl) (by kernel_rfl) (by intro _ _ _ h; exact h) (Or.inl ⟨by rfl, (by intro _ h; (try dsimp only at h); go_simp; first | done | with_reducible rfl)⟩) (by assumption) ?_; (try simp only [Act.put, zs0, zs1, zs2]))
  (refine wpH_t 3 _ (by exact gE rfl) (by kernel_rfl) (by intro _ _ _ h; exact h) (Or.inl ⟨by rfl, (by intro _ h; (try dsimp only at h); go_simp; first | done | with_reducible rfl)⟩) (by assumption) ?_; (try simp only [Act.put, zs0, zs1, zs2]))
  refine wpH_take (i := 4) (v := .agg (keyL k2 k3).toArray) (by exact gE rfl) (by kernel_rfl) (by kernel_rfl) (by kernel_rfl) (by intro _ _ _ h; exact h) (yieldsIf_load_mid (by rfl) 29 _ (by rfl) bc 2 (by rfl) (keyL k2 k3) _ (fun w' h => Blk.mid h.2 2 (keyL k2 k3) rfl) Tryd.underlying29 rfl sizeKey) (by assumption) ?_
  (try simp only [Act.put, zs0, zs1, zs2])
  have hPE := hP P1 p1 q1 P2 16 q2 P4 q4 w4.drew hD4.drew ((OA4.bs.wide (Nat.zero_le _) (Nat.le_refl _)).drew) zq4 zm4 hR4.drew
  (refine wpH_one (i := 5) (by exact gE rfl) (by kernel_rfl) (by rfl) ?_; (go_simp; (with_reducible refine hPE.mono ?_); rintro e w5 ⟨rfl, b5⟩; refine ⟨⟨T4.drew.below b5 T4.lt, hC4.blk.drew.below b5 hC4.blk.lt⟩, ?_⟩); (try simp only [Act.put, zs0, zs1, zs2]))
  have hHeld5 : Blk w5 pb 75 (ptL l v m st po pr rd rp id ref org rec xmt P1 p1 q1 P2 16 q2 A (n - 12) c P4 12 q4) ∧ Blk w5 bc 100 (clL k0 k1 k2 k3 Ac nc cc N A2c n2c c2c) := ⟨T4.drew.below b5 T4.lt, hC4.blk.drew.below b5 hC4.blk.lt⟩
  (refine wpH_t 6 _ (by exact gE rfl) (by kernel_rfl) (by intro _ _ _ h; exact h) (Or.inl ⟨by rfl, (by intro _ h; (try dsimp only at h); go_simp; first | done | with_reducible rfl)⟩) (by assumption) ?_; (try simp only [Act.put, zs0, zs1, zs2]))
  refine wpH_done (by kernel_rfl) ?_ _
  have T5 := hHeld5.1
  have X5 := X4.drew.below b5 (Nat.le_refl _)
  have OI5 := OI4.drew.below b5 (Nat.le_refl _)
  have J5 := J4.drew.below b5 J4.lt
  have hC5 := hC4.drew.below b5 (Nat.le_refl _)
  have B5 := B4.drew.trans (b5.mono B4.size)
  have z45 : w4.heap.size ≤ w5.heap.size := b5.size
  clear hHeld hHeld5 hPE hP X4 OI4 OA4 hC4 hR4 hD4 J4 T4 b5 B4
  have hFi := find_id w5 hC5 P2 q2 ID hHI.out (OI5.bs.wide (Nat.zero_le _) (Nat.le_refl _)) (by omega)
  rw [HF.out] at hFi
  go_wp2_with (first
    | (refine wpl_loadf (by rfl) 23 _ (by rfl) pb 14 (by rfl) _ _ T5 _ rfl _ Tryd.underlying23 rfl ?_)
    | (go_at_call 49; ((with_reducible refine hFi.mono ?_); rintro e w6 ⟨rfl, b6⟩; (have J6 := J5.below b6 J5.lt); (have T6 := T5.below b6 T5.lt); (have B6 := B5.trans (b6.mono B5.size))))
    | (refine wpl_store (by rfl) 27 _ _ (by rfl) w.heap.size (by rfl) _ (by rfl) _ rfl 27 _ J6 (by rfl) _ sizeNtp (by rfl) (by simp [Value.oneCell']) ?_; intro w7 J7 s7 g7))
  refine bodyPost_ret (res_cxy Tryd.results24 (by rfl) J7 Tryd.underlying27 rfl sizeNtp (by rfl) (by rfl) (by rfl)) rfl ?_
  exact ⟨rfl, B6.trans (g7.below B6.size (Nat.le_refl _))⟩
end Go.Proofs.YtachhbbofemfdaaDoor
namespace Go.Proofs.YtachhbbofemfdaaDoor
open Go.RowKit
set_option linter.unusedSimpArgs false
set_option linter.unusedVariables false
set_option maxRecDepth 100000
section
variable {P : Program} {o : Oper} {a : Act} {w : World} {K : Act → World → Prop} {Q : Exit → Act → World → Prop}
theorem wp_store1 (T : TypeId) (x y : Operand) (ho : o.op = .store T x y) (b : Nat) (hx : a.eval x = .pointer (some ⟨b, 0, none⟩)) (cells : Array Value) (hy : a.eval y = .agg cells) (cs : List Value) (hc : cells = cs.toArray) (t : TypeId) (ds : List Value) (hB : Blk w b t ds)
    (hl : ds.length = cs.length) (n : Nat) (hi : (P.info? T).map (·.size) = some n) (hn : cs.length = n) (h1 : ∀ v ∈ cs, v.oneCell' = true)
    (h : ∀ w', Blk w' b t cs → w.heap.size ≤ w'.heap.size → But b w w' → K (a.put o.dst undef) w') : o.wp P a w K Q := by
  subst hc hn
  exact wp_store_mid T x y ho b 0 cs.toArray hx hy (by have := hB.there; rw [hl] at this; simpa using this) (by simpa using hi) (all_oneCell_toArray h1) (h _ (hB.stored cs hl) (Nat.le_of_eq (size_setCells _ _ _ _).symm) (but_setCells _ _ _ (World.grownBy.refl w _)))
end
end Go.Proofs.YtachhbbofemfdaaDoor
