/- What the readers of package wire, and those of its reference, do. -/
import Derived.Test.YtkgpeddncpdjjaaDoorWireMem
import Derived.Test.YtkgpeddncpdjjaaDoorBlk
namespace Go.Proofs.YtkgpeddncpdjjaaDoor
open Go.RowKit
set_option linter.unusedSimpArgs false
set_option linter.unusedVariables false
set_option maxRecDepth 100000
/-- a reader: its struct is block g, its bytes lie from lo on and below g -/
def Rd (w : World) (lo g : Nat) (l : List Int) (e : Int) : Prop :=
  ∃ A c, w.cell? ⟨g, 0, none⟩ = some (.slice A l.length c) ∧ w.cell? ⟨g, 1, none⟩ = some (.int .i64 e) ∧ (∀ o, w.frozen? ⟨g, o, none⟩ = false) ∧ Bs w lo g A l ∧ l.length ≤ c ∧ c ≤ 9223372036854775807 ∧ lo ≤ g ∧ g < w.heap.size
section
variable {w w' : World} {lo g : Nat} {l : List Int} {e : Int}
theorem Rd.lt (h : Rd w lo g l e) : g < w.heap.size := by obtain ⟨_, _, _, _, _, _, _, _, _, h⟩ := h; exact h
theorem Rd.len (h : Rd w lo g l e) : l.length ≤ 9223372036854775807 := by obtain ⟨_, _, _, _, _, _, h1, h2, _⟩ := h; omega
theorem Rd.byt (h : Rd w lo g l e) : Byt l := by obtain ⟨_, _, _, _, _, h, _⟩ := h; exact h.byt
theorem Rd.keep (h : Rd w lo g l e) (hk : ∀ b, lo ≤ b → b ≤ g → w'.heap[b]? = w.heap[b]?) (hs : w.heap.size ≤ w'.heap.size) : Rd w' lo g l e := by
  obtain ⟨A, c, h0, h1, hf, hB, hlc, hcm, hlo, hg⟩ := h
  have hg' := hk g hlo (Nat.le_refl _)
  refine ⟨A, c, (World.cell?_of_block hg').trans h0, (World.cell?_of_block hg').trans h1, fun o => (World.frozen?_of_block hg').trans (hf o), hB.keep fun b o h1 h2 => World.cell?_of_block (hk b h1 (by omega)), hlc, hcm, hlo, by omega⟩
theorem Rd.below {B : Nat} (h : Rd w lo g l e) (hb : Below B w w') (hg : g < B) : Rd w' lo g l e := h.keep (fun b _ h2 => hb.block b (by omega)) hb.size
theorem Rd.grown {row : Option Nat} (h : Rd w lo g l e) (hb : w.grownBy w' row) (hr : ∀ r, row = some r → r < lo ∨ g < r) : Rd w' lo g l e :=
  h.keep (fun b h1 h2 => hb.block b (by have := h.lt; omega) (fun e => by have := hr _ e.symm; omega)) hb.size
end
theorem Rd.new (w : World) {lo c : Nat} {A : Option Addr} {l : List Int} (t : TypeId) (h : Bs w lo w.heap.size A l) (hlc : l.length ≤ c) (hcm : c ≤ 9223372036854775807) (hlo : lo ≤ w.heap.size) :
    Rd (w.alloc (.cells #[.slice A l.length c, .int .i64 0] t)) lo w.heap.size l 0 := by
  have hb := heap_alloc_new w (.cells #[.slice A l.length c, .int .i64 0] t)
  refine ⟨A, c, cell_of_row _ _ 0 _ _ _ hb, cell_of_row _ _ 1 _ _ _ hb, fun o => by unfold World.frozen?; rw [hb]; simp, h.alloc (Nat.le_refl _) _, hlc, hcm, hlo, by simp⟩
theorem Ow.setlow {w : World} {lo c : Nat} {A : Option Addr} {l : List Int} (h : Ow w lo A c l) {p : Addr} (hp : p.block < lo) (u : Value) : Ow (w.setCell p u) lo A c l := ⟨h.1, ownsRow_setCell_below h.2 hp u⟩
def tkOk (l : List Int) (e n : Int) (v : Bool) : Bool := decide (e = 0) && v && decide (n ≤ l.length)
def tkL (l : List Int) (e n : Int) (v : Bool) : List Int := if tkOk l e n v then l.take n.toNat else []
def tkR (l : List Int) (e n : Int) (v : Bool) : List Int := if tkOk l e n v then l.drop n.toNat else l
def tkE (l : List Int) (e n : Int) (v : Bool) : Int := if e ≠ 0 then e else if v then (if l.length < n then 5 else 0) else 2
set_option maxHeartbeats 1000000 in
theorem newReader_any (A : Option Addr) (nl c lo hi : Nat) (l : List Int) (w : World) (hnl : l.length = nl) (h : Bs w lo hi A l) (hh : hi ≤ w.heap.size) (hm : nl ≤ 140737488355328) :
    Calls Tryd.prog 29 #[.slice A nl c] w fun r w' => ∃ g, r = .returned (.pointer (some ⟨g, 0, none⟩)) ∧ Rd w' w.heap.size g l 0 ∧ g + 1 = w'.heap.size ∧ Below w.heap.size w w' := by
  subst hnl
  have hmk := fun W => makeU8 .i64 .i64 l.length (by omega) W
  have hO1 := Ow.made w l.length (by omega)
  have hB1 : Bs (w.alloc (.cells (madeCells #[.int .u8 0] l.length) 5)) lo hi A l := h.alloc hh _
  go_enter Tryd.func29, Tryd.ntmps29
  go_wp2_with (first | (with_reducible refine wpList_copy_bs rfl (.tmp 7) (.tmp 8) rfl w.heap.size l.length l.length l.length c _ rfl rfl (by simp) rfl (by omega) hO1 hB1 ?_; intro w1 hO hg hz))
  simp only [List.drop_replicate, Nat.sub_self, List.replicate_zero, List.append_nil] at hO
  simp only [World.size_alloc] at hz
  have hR := Rd.new w1 70 (hO.bs.wide (Nat.le_refl _) (Nat.le_refl _)) (Nat.le_refl _) (by omega) (by omega)
  rw [hz] at hR
  go_ret
  refine ⟨_, rfl, hR, by simp [hz], Below.alloc (Below.trans ((Below.refl _ w).alloc (Nat.le_refl _) _) (below_of_grown hg (by simp) (by simp))) (by omega) _⟩
theorem tk_no {l : List Int} {e n : Int} {v : Bool} (h : tkOk l e n v = false) : tkL l e n v = [] ∧ tkR l e n v = l := by simp [tkL, tkR, h]
theorem tk_yes {l : List Int} {e n : Int} {v : Bool} (h : tkOk l e n v = true) : tkL l e n v = l.take n.toNat ∧ tkR l e n v = l.drop n.toNat := by simp [tkL, tkR, h]
theorem Rd.err {w : World} {lo g : Nat} {l : List Int} {e : Int} (h : Rd w lo g l e) (e' : Int) : Rd (w.setCell ⟨g, 1, none⟩ (.int .i64 e')) lo g l e' := by
  obtain ⟨A, c, h0, h1, hf, hB, hlc, hcm, hlo, hg⟩ := h
  refine ⟨A, c, (World.cell?_setCell_other w _ _ _ (by simp)).trans h0, World.cell?_setCell_same w _ _ h1, fun o => by rw [World.frozen?_setCell]; exact hf o, hB.setCell (by simp) _, hlc, hcm, hlo, by simpa [World.setCell] using hg⟩
theorem Rd.rest {w : World} {lo g : Nat} {l l' : List Int} {e : Int} (h : Rd w lo g l e) {A : Option Addr} {n c : Nat} (hB : Bs w lo g A l') (hn : l'.length = n) (hlc : n ≤ c) (hcm : c ≤ 9223372036854775807) : Rd (w.setCell ⟨g, 0, none⟩ (.slice A n c)) lo g l' e := by
  subst hn
  obtain ⟨A', c', h0, h1, hf, _, _, _, hlo, hg⟩ := h
  refine ⟨A, c, World.cell?_setCell_same w _ _ h0, (World.cell?_setCell_other w _ _ _ (by simp)).trans h1, fun o => by rw [World.frozen?_setCell]; exact hf o, hB.setCell (by simp) _, hlc, hcm, hlo, by simpa [World.setCell] using hg⟩
theorem but_set {w : World} {g i : Nat} (u : Value) : w.grownBy (w.setCell ⟨g, i, none⟩ u) (some g) := ⟨rfl, rfl, rfl, by simp [World.setCell], fun k _ hk => Below.heap_setCell _ _ _ _ (fun e => hk (by rw [e]))⟩
abbrev rp (g : Nat) : Value := .pointer (some ⟨g, 0, none⟩)
/-- what a call of take leaves -/
def TkPost (lo g : Nat) (L R : List Int) (E : Int) (w : World) (r : Ending) (w' : World) : Prop :=
  ∃ A c, r = .returned (.slice A L.length c) ∧ Bs w' lo g A L ∧ L.length ≤ c ∧ Rd w' lo g R E ∧ But g w w' ∧ w'.heap.size = w.heap.size
set_option maxHeartbeats 2000000 in
theorem take_any (lo g : Nat) (l : List Int) (e n : Int) (v : Bool) (w : World) (hR : Rd w lo g l e) (hv : v = true → 0 ≤ n) :
    Calls Tryd.prog 43 #[rp g, .int .i64 n, .bool v] w (TkPost lo g (tkL l e n v) (tkR l e n v) (tkE l e n v) w) := by
  obtain ⟨A, c, h0, h1, hf, hB, hlc, hcm, hlo, hg⟩ := id hR
  by_cases he : e = 0
  · subst he
    cases v with
    | true =>
      have h2 := hv rfl
      by_cases hn : n ≤ l.length
      · have hok : tkOk l 0 n true = true := by simp [tkOk, hn]
        have hE : tkE l 0 n true = 0 := by simp [tkE]; omega
        obtain ⟨m, rfl⟩ : ∃ m : Nat, n = m := ⟨n.toNat, by omega⟩
        rw [(tk_yes hok).1, (tk_yes hok).2, hE, Int.toNat_natCast]
        clear hok hE
        go_enter Tryd.func43, Tryd.ntmps43
        have hlen : (l.take m).length = m := by rw [List.length_take]; omega
        go_wp2
        · obtain hm : l.length = m := by omega
          go_ret
          refine ⟨A, m, by rw [hlen]; rfl, (hB.take m).setCell (by simp) _, by omega, hR.rest ?_ (by rw [List.length_drop]) (by omega) (by omega), but_set _, by simp [World.setCell]⟩
          rw [List.drop_eq_nil_of_le (by omega)]; exact Bs.nil
        · go_ret
          exact ⟨A, c, by rw [hlen]; rfl, (hB.take m).setCell (by simp) _, by omega, hR.rest (hB.dropm m) (by rw [List.length_drop]) (by omega) (by omega), but_set _, by simp [World.setCell]⟩
      · have hok : tkOk l 0 n true = false := by simp [tkOk, hn]
        have hE : tkE l 0 n true = 5 := by simp [tkE]; omega
        rw [(tk_no hok).1, (tk_no hok).2, hE]
        clear hok hE
        go_enter Tryd.func43, Tryd.ntmps43
        go_wp2
        go_ret
        exact ⟨none, 0, rfl, Bs.nil, by simp, hR.err 5, but_set _, by simp [World.setCell]⟩
    | false =>
      have hok : tkOk l 0 n false = false := by simp [tkOk]
      have hE : tkE l 0 n false = 2 := by simp [tkE]
      rw [(tk_no hok).1, (tk_no hok).2, hE]
      clear hok hE
      go_enter Tryd.func43, Tryd.ntmps43
      go_wp2
      go_ret
      exact ⟨none, 0, rfl, Bs.nil, by simp, hR.err 2, but_set _, by simp [World.setCell]⟩
  · have hok : tkOk l e n v = false := by simp [tkOk, he]
    have hE : tkE l e n v = e := by simp [tkE, he]
    have he' : (e != 0) = true := by simpa using he
    rw [(tk_no hok).1, (tk_no hok).2, hE]
    clear hok hE
    go_enter Tryd.func43, Tryd.ntmps43
    go_wp2
    go_ret
    exact ⟨none, 0, rfl, Bs.nil, by simp, hR, World.grownBy.refl w _, rfl⟩
def szB (s : Int) : Bool := decide (1 ≤ s ∧ s ≤ 8)
def nnB (s : Int) : Bool := decide (0 ≤ s)
theorem szB_nn {s : Int} (h : szB s = true) : 0 ≤ s := by simp [szB] at h; omega
theorem nnB_nn {s : Int} (h : nnB s = true) : 0 ≤ s := by simpa [nnB] using h
theorem sz_cases (s : Int) : (1 ≤ s ∧ s ≤ 8 ∧ szB s = true ∧ decide (1 ≤ s) = true ∧ decide (s ≤ 8) = true) ∨ (1 ≤ s ∧ 8 < s ∧ szB s = false ∧ decide (1 ≤ s) = true ∧ decide (s ≤ 8) = false) ∨ (s < 1 ∧ s ≤ 8 ∧ szB s = false ∧ decide (1 ≤ s) = false ∧ decide (s ≤ 8) = true) := by
  unfold szB
  by_cases h1 : 1 ≤ s
  · by_cases h2 : s ≤ 8
    · exact .inl ⟨h1, h2, decide_eq_true ⟨h1, h2⟩, decide_eq_true h1, decide_eq_true h2⟩
    · exact .inr (.inl ⟨h1, by omega, decide_eq_false (by omega), decide_eq_true h1, decide_eq_false h2⟩)
  · exact .inr (.inr ⟨by omega, by omega, decide_eq_false (by omega), decide_eq_false h1, decide_eq_true (by omega)⟩)
theorem sized_b (s : Int) (w : World) : Calls Tryd.prog 32 #[.int .i64 s] w fun e w' => e = .returned (.bool (szB s)) ∧ w = w' := sized_any s w
/-- what a call of a reader leaves that returns v -/
def RPost (v : Value) (lo g : Nat) (R : List Int) (E : Int) (w : World) (r : Ending) (w' : World) : Prop :=
  r = .returned v ∧ Rd w' lo g R E ∧ But g w w' ∧ w.heap.size ≤ w'.heap.size
/-- what a call of a reader leaves that returns the bytes L in new memory -/
def BPost (L : List Int) (lo g : Nat) (R : List Int) (E : Int) (w : World) (r : Ending) (w' : World) : Prop :=
  ∃ A c, r = .returned (.slice A L.length c) ∧ Ow w' w.heap.size A c L ∧ Rd w' lo g R E ∧ But g w w' ∧ w.heap.size ≤ w'.heap.size
theorem tkL_len (l : List Int) (e n : Int) (v : Bool) : (tkL l e n v).length ≤ l.length := by unfold tkL; split <;> simp <;> omega
theorem tkL_byt {l : List Int} (h : Byt l) (e n : Int) (v : Bool) : Byt (tkL l e n v) := by unfold tkL; split; exact h.take _; exact Byt.nil
theorem tkR_byt {l : List Int} (h : Byt l) (e n : Int) (v : Bool) : Byt (tkR l e n v) := by unfold tkR; split; exact h.drop _; exact h
/-- the signed number whose bytes are L, two's complement -/
def intB (L : List Int) : Int := if L.length = 0 then 0 else if 2 * numB L < 256 ^ L.length then numB L else numB L - 256 ^ L.length
theorem tkL_sz (l : List Int) (e s : Int) : (tkL l e s (szB s)).length = 0 ∨ (1 ≤ (tkL l e s (szB s)).length ∧ (tkL l e s (szB s)).length ≤ 8) := by
  unfold tkL tkOk szB; split <;> simp_all <;> omega
set_option maxHeartbeats 1000000 in
theorem uint_any (lo g : Nat) (l : List Int) (e s : Int) (w : World) (hR : Rd w lo g l e) :
    Calls Tryd.prog 30 #[rp g, .int .i64 s] w (RPost (.int .u64 (numB (tkL l e s (szB s)))) lo g (tkR l e s (szB s)) (tkE l e s (szB s)) w) := by
  have hlen := tkL_len l e s (szB s)
  have hm := hR.len
  go_enter Tryd.func30, Tryd.ntmps30
  go_wp2_with (first | (go_at_call 32; ((with_reducible refine (sized_b _ _).mono ?_); rintro e w1 ⟨rfl, rfl⟩)) | (go_at_call 43; ((with_reducible refine (take_any lo g l e s _ _ hR szB_nn).mono ?_); rintro e w1 ⟨A, c, rfl, hB, hc, hR', hg, hz⟩)) | (go_at_call 42; ((with_reducible refine (number_any _ _ _ lo g _ _ rfl hB (by omega)).mono ?_); rintro e w2 ⟨rfl, rfl⟩)))
  go_ret
  exact ⟨rfl, hR', hg, by omega⟩
theorem numB_app (L : List Int) (x : Int) : numB (L ++ [x]) = stepB (numB L) x := by unfold numB; rw [List.foldl_append]; rfl
theorem numB_take_lt {L : List Int} (h : Byt L) : ∀ k : Nat, k ≤ L.length → numB (L.take k) < 256 ^ k := by
  intro k
  induction k with
  | zero => intro _; simp [numB]
  | succ k ih =>
    intro hk
    have h1 := ih (by omega)
    have h2 := h.at k
    have h3 := (numB_range (L.take k)).1
    rw [numB_succ L k (by omega), Int.pow_succ]
    have : stepB (numB (L.take k)) (atB L k) ≤ numB (L.take k) * 256 + atB L k := by unfold stepB; omega
    omega
theorem numB_lt {L : List Int} (h : Byt L) : numB L < 256 ^ L.length := by
  have := numB_take_lt h L.length (Nat.le_refl _)
  rwa [List.take_length] at this
theorem sgn_eq (n : Int) (k : Nat) (h1 : 1 ≤ k) (h8 : k ≤ 8) (h0 : 0 ≤ n) (hn : n < 256 ^ k) :
    wrap64 (IntKind.u64.wrap (n * 2 ^ (64 - 8 * k))) / 2 ^ (64 - 8 * k) = if 2 * n < 256 ^ k then n else n - 256 ^ k := by
  rw [IntKind.wrap_u64]
  unfold wrap64
  have : k = 1 ∨ k = 2 ∨ k = 3 ∨ k = 4 ∨ k = 5 ∨ k = 6 ∨ k = 7 ∨ k = 8 := by omega
  rcases this with rfl | rfl | rfl | rfl | rfl | rfl | rfl | rfl <;> simp at hn ⊢ <;> split <;> omega
end Go.Proofs.YtkgpeddncpdjjaaDoor
