/- A list of byte slices of the call's own beside a client (the replies of GuardWaits), and two fields with their bytes. -/
import Derived.Test.YtachhbbofemfdaaDoorGWz2
namespace Go.Proofs.YtachhbbofemfdaaDoor
open Go.RowKit
set_option linter.unusedSimpArgs false
set_option linter.unusedVariables false
set_option maxRecDepth 100000
section
variable {ops : Array Oper} {rest : List Oper} {o : Oper} {a : Act} {w : World} {Q : Exit → Act → World → Prop}
/-- append of one slice to a row of the call's own -/
theorem wpl_append_sl (hw : Region.wanted o (yielded ops a.tmps) = true) (d s : Operand) (T : TypeId) (ho : o.op = .call { callee := .builtin .append, args := #[d, s], argTypes := #[T, T] }) (E : TypeId) (z : Value) (size bytes : Nat)
    (hT : Tryd.prog.underlying T = some (.slice E)) (hI : (Tryd.prog.info? E).map (fun i => (i.zero, i.size, i.bytes)) = some (some z, size, bytes)) (hz : z.cells.size = size) (h0 : 0 < size) (v : Value) (n : Nat) (xs : List Value) (lo : Nat) (hd : a.eval d = v) (hown : w.ownsRow lo E size v n xs)
    (ad : Addr) (m c' : Nat) (hs : a.eval s = .slice (some ad) m c') (news : List Value) (hn : news.length = m * size) (hc : ∀ j u, news[j]? = some u → w.cell? (ad.add j) = some u) (h1 : ∀ u ∈ news, u.oneCell' = true)
    (hsz : n + m ≤ 1000000000) (hby : (n + m) * bytes ≤ 140737488355328) (hlo : lo ≤ w.heap.size)
    (h : ∀ v' w', w'.ownsRow lo E size v' (n + m) (xs ++ news) → w.grownBy w' v.ownBlock → (v'.ownBlock = v.ownBlock ∨ v'.ownBlock = some w.heap.size) → wpList Tryd.prog ops Q rest (a.put o.dst v') w') : wpList Tryd.prog ops Q (o :: rest) a w := by
  obtain ⟨i, hi, hz', h1', h2'⟩ := info_parts hI
  obtain ⟨v', w', hrun, r1, r2, _, r3⟩ := run_append_own_at (P := Tryd.prog) w lo T o.type E i z size bytes hT hi hz' h1' h2' hz h0 v n xs hown ad m c' news hn hc h1 (by unfold maxLen; omega) hby hlo
  refine wpl_want hw fun K hK => ?_
  unfold Oper.wp execOp
  simp only [ho, resolve, invoke, builtin, Sem.run_bind, Sem.run_pure, Result.andThen_ok, List.map_toArray, List.map_cons, List.map_nil, hd, hs, hrun]
  exact hK _ _ (h v' w' r1 r2 r3)
end
/-- the blocks F hold slices of bytes -/
def TyF (w : World) (F : List Nat) : Prop := ∀ x ∈ F, ∃ cur fz, w.heap[x]? = some (.cells cur 23 fz)
theorem TyF.blk {w : World} {F : List Nat} {k : Nat} {t : TypeId} {cs : List Value} (h : TyF w F) (hB : Blk w k t cs) (ht : t ≠ 23) : k ∉ F := fun hm => by
  obtain ⟨cur, fz, e⟩ := h k hm
  have hB' : w.heap[k]? = some (.cells cs.toArray t (0, 0)) := hB
  rw [hB'] at e
  injection e with e
  injection e with _ e _
  exact ht e
theorem TyF.ck {w : World} {F : List Nat} {lo : Nat} {G : List Nat} {t : CkT} (h : TyF w F) (hC : Ck w lo G t) : t.1 ∉ F := fun hm => by
  obtain ⟨cur, fz, e⟩ := h t.1 hm
  rcases hC.1.2.2 with ⟨h1, _⟩ | ⟨g, cap, cur', h1, _, hg, _⟩
  · injection h1 with h1; cases h1
  · injection h1 with h1 _ _
    injection h1 with h1
    injection h1 with h1 _ _
    rw [h1, hg] at e
    injection e with e
    injection e with _ e _
    exact absurd e (by decide)
theorem kp_grown {w w' : World} {r : Option Nat} (h : w.grownBy w' r) : Kp w r.toList w' :=
  ⟨h.os, h.tape, h.output, h.size, fun b hb hn => h.block b hb (by
    intro e
    apply hn
    rw [← e]; simp)⟩
/-- byte slices T in a row of the call's own; G are blocks that others write -/
structure RpLs (w : World) (lo : Nat) (G : List Nat) (T : List CkT) (A : Option Addr) (n c : Nat) : Prop where
  tn : T.length = n
  row : w.ownsRow lo 23 1 (.slice A n c) n (T.map ckV)
  ck : ∀ t ∈ T, Ck w lo G t
  ng : ∀ x ∈ (Value.slice A n c).ownBlock.toList, x ∉ G
section
variable {w w' : World} {lo : Nat} {G G' : List Nat} {T : List CkT} {A : Option Addr} {n c : Nat}
theorem RpLs.nil (w : World) (lo : Nat) (G : List Nat) : RpLs w lo G [] none 0 0 := ⟨rfl, World.ownsRow_nil _ _ _ _, fun t ht => by (cases ht), fun x hx => by simp [Value.ownBlock] at hx⟩
theorem RpLs.ty (h : RpLs w lo G T A n c) : TyF w (Value.slice A n c).ownBlock.toList := fun x hx => by
  rcases h.row.2 with ⟨h1, _⟩ | ⟨g, cap, cur, h1, _, hg, _⟩
  · rw [h1] at hx; simp [Value.ownBlock] at hx
  · rw [h1] at hx
    have : x = g := by simpa [Value.ownBlock] using hx
    exact ⟨cur, (0, 0), by rw [this]; exact hg⟩
theorem RpLs.rng (h : RpLs w lo G T A n c) : ∀ x ∈ (Value.slice A n c).ownBlock.toList, lo ≤ x ∧ x < w.heap.size := fun x hx => h.row.lt x (by simpa using hx)
/-- kept while the blocks of G alone are written -/
theorem RpLs.go (h : RpLs w lo G T A n c) (hk : Kp w G w') (hn : Nw w G G') : RpLs w' lo G' T A n c :=
  ⟨h.tn, own_kept h.row fun k hk' => hk.block k (h.row.lt k hk').2 (h.ng k (by simpa using hk')), fun t ht => (h.ck t ht).go hk hn, fun x hx => hn.out (h.rng x hx).2 (h.ng x hx)⟩
theorem RpLs.below (h : RpLs w lo G T A n c) (hb : Below w.heap.size w w') : RpLs w' lo G T A n c :=
  ⟨h.tn, own_kept h.row fun k hk' => hb.block k (h.row.lt k hk').2, fun t ht => (h.ck t ht).below hb, h.ng⟩
theorem RpLs.push {t : CkT} {v' : Value} (h : RpLs w lo G T A n c) (ht : Ck w lo G t) (hG : ∀ x ∈ G, x < w.heap.size)
    (hr : w'.ownsRow lo 23 1 v' (n + 1) (T.map ckV ++ [ckV t])) (hk : w.grownBy w' (Value.slice A n c).ownBlock) (hv : v'.ownBlock = (Value.slice A n c).ownBlock ∨ v'.ownBlock = some w.heap.size) :
    ∃ A' c', v' = .slice A' (n + 1) c' ∧ RpLs w' lo G (T ++ [t]) A' (n + 1) c' := by
  obtain ⟨g, cap, rfl, h1, h2, h3, h4, h5⟩ := own_form hr (by omega)
  refine ⟨_, cap, rfl, by rw [List.length_append, h.tn]; rfl, by rw [List.map_append]; exact hr, fun u hu => ?_, fun x hx => ?_⟩
  · have key : Ck w lo G u := by
      rw [List.mem_append] at hu
      rcases hu with hu | hu
      · exact h.ck u hu
      · obtain rfl : u = t := by simpa using hu
        exact ht
    exact key.kp (kp_grown hk) (h.ty.ck key) key.2
  · rcases hv with hv | hv
    · rw [hv] at hx; exact h.ng x hx
    · rw [hv] at hx
      have hx' : x = w.heap.size := by simpa using hx
      intro hm
      have := hG x hm
      omega
/-- entry k -/
theorem RpLs.at (h : RpLs w lo G T A n c) {k : Nat} (hk : k < n) : ∃ g t, A = some ⟨g, 0, none⟩ ∧ T[k]? = some t ∧ w.cell? ⟨g, k, none⟩ = some (ckV t) ∧ Ck w lo G t := by
  obtain ⟨g, cap, e, h1, h2, h3, h4, h5⟩ := own_form h.row (by omega)
  injection e with e _ _
  have hk' : k < T.length := by rw [h.tn]; exact hk
  refine ⟨g, T[k], e, List.getElem?_eq_getElem hk', ?_, h.ck T[k] (List.getElem_mem hk')⟩
  rw [h5 k (by omega), List.getElem?_map, List.getElem?_eq_getElem hk']
  rfl
end
/-- two fresh cookies as fields, and their bytes -/
def X2 (w : World) (G : List Nat) (be : Nat) (ca cb : List Int) : Prop := ∃ r6 c6 r7 c7, BlG w G be 62 [.int .i64 772, .slice (some ⟨r6, 0, none⟩) 52 c6, .int .i64 772, .slice (some ⟨r7, 0, none⟩) 52 c7] ∧ Ck w 0 G (r6, c6, ca) ∧ Ck w 0 G (r7, c7, cb)
section
variable {w w' : World} {G G' F : List Nat} {be : Nat} {ca cb : List Int}
theorem X2.go (h : X2 w G be ca cb) (hk : Kp w G w') (hn : Nw w G G') : X2 w' G' be ca cb := by
  obtain ⟨r6, c6, r7, c7, h1, h2, h3⟩ := h
  exact ⟨r6, c6, r7, c7, h1.go hk hn, h2.go hk hn, h3.go hk hn⟩
theorem X2.below (h : X2 w G be ca cb) (hb : Below w.heap.size w w') : X2 w' G be ca cb := by
  obtain ⟨r6, c6, r7, c7, h1, h2, h3⟩ := h
  exact ⟨r6, c6, r7, c7, h1.below hb, h2.below hb, h3.below hb⟩
theorem X2.kpf (h : X2 w G be ca cb) (hk : Kp w F w') (hF : TyF w F) : X2 w' G be ca cb := by
  obtain ⟨r6, c6, r7, c7, h1, h2, h3⟩ := h
  exact ⟨r6, c6, r7, c7, ⟨hk.blk h1.1 (hF.blk h1.1 (by decide)), h1.2⟩, h2.kp hk (hF.ck h2) h2.2, h3.kp hk (hF.ck h3) h3.2⟩
theorem X2.xs (h : X2 w G be ca cb) (h1 : ca.length = 52) (h2 : cb.length = 52) : Xs w w.heap.size (some ⟨be, 0, none⟩) (twoL ca cb) := by
  obtain ⟨r6, c6, r7, c7, N, O6, O7⟩ := h
  refine fun _ => ⟨be, 0, rfl, N.1.lt, fun k hk => ?_⟩
  have hk2 : k = 0 ∨ k = 1 := by
    have : k < 2 := hk
    omega
  rcases hk2 with rfl | rfl
  · refine ⟨some ⟨r6, 0, none⟩, c6, N.1.cell (i := 0) rfl, ?_, O6.1.bs.wide (Nat.zero_le _) (Nat.le_refl _), O6.1.cap_le, O6.1.cap_max, fun e => by cases e⟩
    show w.cell? ⟨be, 1, none⟩ = some (.slice (some ⟨r6, 0, none⟩) ca.length c6)
    rw [h1]; exact N.1.cell (i := 1) rfl
  · refine ⟨some ⟨r7, 0, none⟩, c7, N.1.cell (i := 2) rfl, ?_, O7.1.bs.wide (Nat.zero_le _) (Nat.le_refl _), O7.1.cap_le, O7.1.cap_max, fun e => by cases e⟩
    show w.cell? ⟨be, 3, none⟩ = some (.slice (some ⟨r7, 0, none⟩) cb.length c7)
    rw [h2]; exact N.1.cell (i := 3) rfl
end
theorem BlG.kpf {w w' : World} {G F : List Nat} {k : Nat} {t : TypeId} {cs : List Value} (h : BlG w G k t cs) (hk : Kp w F w') (hF : TyF w F) (ht : t ≠ 23) : BlG w' G k t cs := ⟨hk.blk h.1 (hF.blk h.1 ht), h.2⟩
/-- the client is kept by an append to a row of slices that is none of its own -/
theorem Cli.kpf {w w' : World} {lo b : Nat} {G F : List Nat} {k0 k1 k2 k3 N : Int} {CK I : List (List Int)} (h : Cli w lo b G k0 k1 k2 k3 CK N I) (hk : Kp w F w') (hF : TyF w F) (hG : ∀ x ∈ F, x ∉ G) : Cli w' lo b G k0 k1 k2 k3 CK N I := by
  obtain ⟨g1, g2, T, A, n, c, A2, n2, c2, rfl, rfl, h⟩ := h
  exact ⟨g1, g2, T, A, n, c, A2, n2, c2, rfl, rfl, h.kp hk (fun hm => hG _ hm (by simp)) (fun hm => hG _ hm (by simp)) (fun hm => hG _ hm (by simp)) (fun t ht => hF.ck (h.ck t ht).1)⟩
end Go.Proofs.YtachhbbofemfdaaDoor
