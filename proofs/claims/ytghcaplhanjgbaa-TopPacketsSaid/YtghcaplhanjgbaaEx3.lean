/- Extension fields: lists that the call made, and the contract of Parse, of the program and of the reference. -/
import Derived.Test.YtghcaplhanjgbaaEx2
namespace Go.Proofs.Ytghcaplhanjgbaa
open Go.RowKit
set_option linter.unusedSimpArgs false
set_option linter.unusedVariables false
set_option maxRecDepth 100000
abbrev XT := (Int × List Int) × (Option Addr × Nat)
def rowX : List XT → List Value
  | [] => []
  | t :: r => .int .i64 t.1.1 :: .slice t.2.1 t.1.2.length t.2.2 :: rowX r
theorem rowX_len : ∀ T : List XT, (rowX T).length = T.length * 2
  | [] => rfl
  | t :: r => by simp only [rowX, List.length_cons, rowX_len r]; omega
theorem rowX_app : ∀ (T : List XT) (u : XT), rowX (T ++ [u]) = rowX T ++ [.int .i64 u.1.1, .slice u.2.1 u.1.2.length u.2.2]
  | [], u => rfl
  | t :: r, u => by simp only [List.cons_append, rowX, rowX_app r u]
theorem rowX_at : ∀ (T : List XT) (k : Nat) (h : k < T.length), (rowX T)[k * 2]? = some (.int .i64 (T[k]'h).1.1) ∧ (rowX T)[k * 2 + 1]? = some (.slice (T[k]'h).2.1 (T[k]'h).1.2.length (T[k]'h).2.2)
  | [], k, h => by simp at h
  | t :: r, 0, h => ⟨rfl, rfl⟩
  | t :: r, k + 1, h => by
    have := rowX_at r k (by simpa using h)
    have e : (k + 1) * 2 = k * 2 + 1 + 1 := by omega
    rw [e]
    exact this
/-- the call's own list of fields, each with its own bytes -/
def XOT (w : World) (lo : Nat) (A : Option Addr) (c : Nat) (T : List XT) : Prop := w.ownsRow lo 36 2 (.slice A T.length c) T.length (rowX T) ∧ ∀ t ∈ T, Ow w lo t.2.1 t.2.2 t.1.2
def flds (T : List XT) : Flds := T.map (·.1)
theorem flds_len (T : List XT) : (flds T).length = T.length := by simp [flds]
theorem flds_snoc (T : List XT) (u : XT) : flds (T ++ [u]) = flds T ++ [u.1] := by simp [flds]
def XO (w : World) (lo : Nat) (A : Option Addr) (c : Nat) (L : Flds) : Prop := ∃ T : List XT, flds T = L ∧ XOT w lo A c T
section
variable {w w' : World} {lo c : Nat} {A : Option Addr} {L : Flds} {T : List XT}
theorem XOT.nil (w : World) (lo : Nat) : XOT w lo none 0 [] := ⟨World.ownsRow_nil _ _ _ _, fun t ht => by cases ht⟩
theorem XO.nil (w : World) (lo : Nat) : XO w lo none 0 [] := ⟨[], rfl, XOT.nil w lo⟩
theorem own_nil' {E : TypeId} {size n : Nat} {xs : List Value} (h : w.ownsRow lo E size (.slice A n c) n xs) : A = none → n = 0 ∧ c = 0 := fun hA => by
  subst hA
  rcases h.2 with ⟨h1, _⟩ | ⟨g, cap, cur, h1, _⟩
  · injection h1 with _ h2 h3; exact ⟨h2, h3⟩
  · injection h1 with h2; cases h2
theorem XOT.cap (h : XOT w lo A c T) : T.length ≤ c ∧ c ≤ 9223372036854775807 ∧ (A = none → T.length = 0 ∧ c = 0) := by
  obtain ⟨h2, _⟩ := h
  refine ⟨?_, ?_, own_nil' h2⟩
  · rcases h2.2 with ⟨h3, h4⟩ | ⟨g, cap, cur, h3, _, _, h5, _⟩
    · injection h3 with _ h5 h6; omega
    · injection h3 with _ _ h6; omega
  · rcases h2.2 with ⟨h3, h4⟩ | ⟨g, cap, cur, h3, _, _, _, h5, _⟩
    · injection h3 with _ h5 h6; omega
    · injection h3 with _ _ h6; unfold maxLen at h5; omega
theorem XOT.keep (h : XOT w lo A c T) (hk : ∀ b, lo ≤ b → b < w.heap.size → w'.heap[b]? = w.heap[b]?) : XOT w' lo A c T :=
  ⟨own_kept h.1 fun g hg => hk g (h.1.lt g hg).1 (h.1.lt g hg).2, fun t ht => ⟨(h.2 t ht).1, own_kept (h.2 t ht).2 fun g hg => hk g ((h.2 t ht).2.lt g hg).1 ((h.2 t ht).2.lt g hg).2⟩⟩
theorem XOT.below {B : Nat} (h : XOT w lo A c T) (hb : Below B w w') (h1 : w.heap.size ≤ B) : XOT w' lo A c T := h.keep fun b _ h2 => hb.block b (by omega)
theorem XOT.alloc (h : XOT w lo A c T) (o : Obj) : XOT (w.alloc o) lo A c T := h.keep fun b _ h2 => heap_alloc_old w o h2
theorem XO.keep (h : XO w lo A c L) (hk : ∀ b, lo ≤ b → b < w.heap.size → w'.heap[b]? = w.heap[b]?) : XO w' lo A c L := by
  obtain ⟨T, h1, h2⟩ := h
  exact ⟨T, h1, h2.keep hk⟩
theorem XO.below {B : Nat} (h : XO w lo A c L) (hb : Below B w w') (h1 : w.heap.size ≤ B) : XO w' lo A c L := h.keep fun b _ h2 => hb.block b (by omega)
theorem XO.alloc (h : XO w lo A c L) (o : Obj) : XO (w.alloc o) lo A c L := h.keep fun b _ h2 => heap_alloc_old w o h2
theorem XO.drew (h : XO w lo A c L) : XO w.drew lo A c L := h
theorem XO.but {g : Nat} (h : XO w lo A c L) (hg : But g w w') (hlt : g < lo) : XO w' lo A c L := h.keep fun b h1 h2 => hg.block b h2 (by simp; omega)
theorem XO.cap (h : XO w lo A c L) : L.length ≤ c ∧ c ≤ 9223372036854775807 ∧ (A = none → L.length = 0 ∧ c = 0) := by
  obtain ⟨T, rfl, h2⟩ := h
  rw [flds_len]
  exact h2.cap
theorem XO.wide {lo' : Nat} (h : XO w lo A c L) (hl : lo' ≤ lo) : XO w lo' A c L := by
  obtain ⟨T, h1, h2, h3⟩ := h
  refine ⟨T, h1, ⟨h2.1, ?_⟩, fun t ht => (h3 t ht).wide hl⟩
  rcases h2.2 with h4 | ⟨g, cap, cur, e1, e2, e3⟩
  · exact .inl h4
  · exact .inr ⟨g, cap, cur, e1, by omega, e3⟩
theorem XO.byt (h : XO w lo A c L) : ∀ t ∈ L, Byt t.2 := by
  obtain ⟨T, rfl, _, h3⟩ := h
  intro t ht
  obtain ⟨u, hu, rfl⟩ := List.mem_map.1 ht
  exact (h3 u hu).1
/-- the list, read -/
theorem XO.xs (h : XO w lo A c L) : Xs w w.heap.size A L := by
  obtain ⟨T, rfl, h2, h3⟩ := h
  intro hp
  rw [flds_len] at hp
  obtain ⟨g, cap, e, h4, h5, _, _, hc⟩ := own_form h2 hp
  have hA : A = some ⟨g, 0, none⟩ := by injection e
  subst hA
  refine ⟨g, 0, rfl, h5, fun k hk => ?_⟩
  rw [flds_len] at hk
  obtain ⟨r0, r1⟩ := rowX_at T k hk
  have hO := h3 (T[k]) (List.getElem_mem hk)
  have e0 : kdL (flds T) k = (T[k]).1.1 := by unfold kdL flds; rw [List.getD_eq_getElem?_getD, List.getElem?_map, List.getElem?_eq_getElem hk]; rfl
  have e1 : dtL (flds T) k = (T[k]).1.2 := by unfold dtL flds; rw [List.getD_eq_getElem?_getD, List.getElem?_map, List.getElem?_eq_getElem hk]; rfl
  rw [e0, e1, Nat.zero_add]
  refine ⟨(T[k]).2.1, (T[k]).2.2, (hc _ (by omega)).trans r0, (hc _ (by omega)).trans r1, hO.bs.wide (Nat.zero_le _) (Nat.le_refl _), hO.cap_le, hO.cap_max, fun hn => ?_⟩
  rcases hO.form with ⟨_, hl, hc⟩ | ⟨g', hg', _⟩
  · exact ⟨by rw [hl]; rfl, hc⟩
  · rw [hn] at hg'; cases hg'
/-- two rows of other types do not share a block -/
theorem own_types {lo' n n' size size' : Nat} {E E' : TypeId} {v v' : Value} {xs xs' : List Value} (h : w.ownsRow lo E size v n xs) (h' : w.ownsRow lo' E' size' v' n' xs') (hne : E ≠ E') : ∀ g, v.ownBlock = some g → v'.ownBlock ≠ some g := fun g hg hg' => by
  rcases h.2 with ⟨e, _⟩ | ⟨b, cap, cur, e, _, hb, _⟩
  · rw [e] at hg; simp [Value.ownBlock] at hg
  · rcases h'.2 with ⟨e', _⟩ | ⟨b', cap', cur', e', _, hb', _⟩
    · rw [e'] at hg'; simp [Value.ownBlock] at hg'
    · rw [e] at hg; rw [e'] at hg'
      simp [Value.ownBlock] at hg hg'
      subst hg
      subst hg'
      rw [hb] at hb'
      injection hb' with hb'
      injection hb' with _ ht
      exact hne ht
/-- one field more -/
theorem xo_push {w1 : World} {v v' : Value} {A1 : Option Addr} {c1 : Nat} {kd : Int} {dt : List Int} (hT : ∀ t ∈ T, Ow w lo t.2.1 t.2.2 t.1.2) (hrow : w.ownsRow lo 36 2 v T.length (rowX T)) (hd : Ow w lo A1 c1 dt)
    (hr : w1.ownsRow lo 36 2 v' (T.length + 1) (rowX T ++ [.int .i64 kd, .slice A1 dt.length c1])) (hg : w.grownBy w1 v.ownBlock) : ∃ A' c', v' = .slice A' (T.length + 1) c' ∧ XOT w1 lo A' c' (T ++ [((kd, dt), (A1, c1))]) := by
  have key : ∀ {A : Option Addr} {c : Nat} {l : List Int}, Ow w lo A c l → Ow w1 lo A c l := fun {A c l} h => ⟨h.1, own_kept h.2 fun g hgg => hg.block g (h.2.lt g hgg).2 (fun e => own_types hrow h.2 (by decide) g e.symm hgg)⟩
  obtain ⟨g, cap, rfl, _⟩ := own_form hr (by omega)
  refine ⟨_, _, rfl, ?_, fun t ht => ?_⟩
  · rw [List.length_append, rowX_app]
    exact hr
  · rcases List.mem_append.1 ht with ht | ht
    · exact key (hT t ht)
    · rw [List.mem_singleton.1 ht]; exact key hd
end
theorem infoExt : (Try.prog.info? 36).map (fun i => (i.zero, i.size, i.bytes)) = some (some (.agg #[.int .i64 0, .slice none 0 0]), 2, 32) := by kernel_rfl
/-- the state of Parse's loop -/
def ParR (w0 : World) (PR : Flds × List Int × Int) (wr : World) (bv lv : Value) : Prop :=
  ∃ (T : List XT) (A : Option Addr) (c : Nat) (B : Option Addr) (n cb : Nat) (rest : List Int) (f : Nat), lv = .slice A T.length c ∧ XOT wr w0.heap.size A c T ∧ bv = .slice B n cb ∧ rest.length = n ∧ Bs wr 0 w0.heap.size B rest ∧ n ≤ cb ∧ cb ≤ 9223372036854775807 ∧ n ≤ f ∧ n ≤ 1000000 ∧ prs f (flds T) rest = PR ∧ T.length ≤ 16 ∧ Below w0.heap.size w0 wr
def lenV : Value → Nat
  | .slice _ n _ => n
  | _ => 0
theorem prs_end {f : Nat} {acc : Flds} {l : List Int} {PR : Flds × List Int × Int} (h : prs f acc l = PR) (h0 : l.length = 0) : PR = (acc, [], 0) := by
  rw [← h]
  cases f with
  | zero => rfl
  | succ f => rw [prs, if_pos h0]
theorem prs_auth {f : Nat} {acc : Flds} {l : List Int} {PR : Flds × List Int × Int} (h : prs f acc l = PR) (hf : l.length ≤ f) (h0 : l.length = 12) : PR = (acc, l, 0) := by
  rw [← h]
  cases f with
  | zero => omega
  | succ f => rw [prs, if_neg (by omega), if_pos h0]
theorem prs_short {f : Nat} {acc : Flds} {l : List Int} {PR : Flds × List Int × Int} (h : prs f acc l = PR) (hf : l.length ≤ f) (h0 : l.length ≠ 0) (h1 : l.length ≠ 12) (h2 : l.length < 16) : PR = ([], [], 5) := by
  rw [← h]
  cases f with
  | zero => omega
  | succ f => rw [prs, if_neg h0, if_neg h1, if_pos h2]
theorem prs_form {f : Nat} {acc : Flds} {l : List Int} {PR : Flds × List Int × Int} (h : prs f acc l = PR) (hf : l.length ≤ f) (h2 : 16 ≤ l.length) (h3 : psz l < 16 ∨ psz l % 4 ≠ 0) : PR = ([], [], 7) := by
  rw [← h]
  cases f with
  | zero => omega
  | succ f => rw [prs, if_neg (by omega), if_neg (by omega), if_neg (by omega), if_pos h3]
theorem prs_short2 {f : Nat} {acc : Flds} {l : List Int} {PR : Flds × List Int × Int} (h : prs f acc l = PR) (hf : l.length ≤ f) (h2 : 16 ≤ l.length) (h3 : ¬(psz l < 16 ∨ psz l % 4 ≠ 0)) (h4 : l.length < psz l) : PR = ([], [], 5) := by
  rw [← h]
  cases f with
  | zero => omega
  | succ f => rw [prs, if_neg (by omega), if_neg (by omega), if_neg (by omega), if_neg h3, if_pos h4]
theorem prs_long {f : Nat} {acc : Flds} {l : List Int} {PR : Flds × List Int × Int} (h : prs f acc l = PR) (hf : l.length ≤ f) (h2 : 16 ≤ l.length) (h3 : ¬(psz l < 16 ∨ psz l % 4 ≠ 0)) (h4 : psz l ≤ l.length) (h5 : acc.length = 16 ∨ 260 < psz l) : PR = ([], [], 6) := by
  rw [← h]
  cases f with
  | zero => omega
  | succ f => rw [prs, if_neg (by omega), if_neg (by omega), if_neg (by omega), if_neg h3, if_neg (by omega), if_pos h5]
theorem prs_next {f : Nat} {acc : Flds} {l : List Int} {PR : Flds × List Int × Int} (h : prs f acc l = PR) (hf : l.length ≤ f) (h2 : 16 ≤ l.length) (h3 : ¬(psz l < 16 ∨ psz l % 4 ≠ 0)) (h4 : psz l ≤ l.length) (h5 : ¬(acc.length = 16 ∨ 260 < psz l)) : ∃ f', (l.drop (psz l)).length ≤ f' ∧ prs f' (acc ++ [(pkd l, (l.take (psz l)).drop 4)]) (l.drop (psz l)) = PR := by
  cases f with
  | zero => omega
  | succ f =>
    refine ⟨f, by rw [List.length_drop]; omega, ?_⟩
    rw [← h, prs, if_neg (by omega), if_neg (by omega), if_neg (by omega), if_neg h3, if_neg (by omega), if_neg h5]
open Go.RowKit
theorem get_kd (A : Option Addr) (n c lo hi : Nat) (l : List Int) (w : World) (hn : l.length = n) (h : Bs w lo hi A l) (hm : n ≤ c) (hc : c ≤ 9223372036854775807) (h16 : 16 ≤ n) :
    Calls Try.prog 22 #[.slice A n c, .int .i64 0, .int .i64 2] w fun e w' => e = .returned (.tuple #[.int .u64 (pkd l), .int .i64 0]) ∧ w = w' := by
  have h1 := get_any A n c lo hi l 0 2 w hn h hm hc (by omega)
  unfold getR at h1
  rw [getE_0 (by omega) (by omega)] at h1
  exact h1
theorem get_sz (A : Option Addr) (n c lo hi : Nat) (l : List Int) (w : World) (hn : l.length = n) (h : Bs w lo hi A l) (hm : n ≤ c) (hc : c ≤ 9223372036854775807) (h16 : 16 ≤ n) :
    Calls Try.prog 22 #[.slice A n c, .int .i64 2, .int .i64 2] w fun e w' => e = .returned (.tuple #[.int .u64 ((psz l : Nat) : Int), .int .i64 0]) ∧ w = w' := by
  have h1 := get_any A n c lo hi l 2 2 w hn h hm hc (by omega)
  unfold getR at h1
  rw [getE_0 (by omega) (by omega)] at h1
  have e : ((psz l : Nat) : Int) = numB ((l.drop 2).take 2) := by
    have := (numB_range ((l.drop 2).take 2)).1
    unfold psz
    omega
  rw [e]
  exact h1
end Go.Proofs.Ytghcaplhanjgbaa
