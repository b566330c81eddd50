/- Extension fields: lists that the call made, and the contract of Parse, of the program and of the reference. The contract of Parse of the program. The contract of Parse of the reference. Strings as lists of bytes; conversions between strings and byte slices. (Merge with Stamp3, Stamp4, StampText where a seat needs both.) The library's bytes.Equal, bytes.Clone and bytes.Repeat at one byte and twelve. A region that draws its order, each of whose operations yields one value in every world that meets S, and leaves a world that meets S: then one order stands for all. No function of the program occurs here. Contracts of Auth, Split, Same and few. -/
import Derived.Test.YtachhbbofemfdaaDoorGZ3
import Derived.Test.YtachhbbofemfdaaDoorGZ1
import Derived.Laws.IdiomStrings
import Derived.Test.YtachhbbofemfdaaDoorGZ2
import Derived.Lib.MakeNoZero
import Derived.Laws.CopyOwn
import Derived.Laws.Externs
import Derived.Deep.RegionLaw
import Derived.WalkSpells
import Derived.Deep.RegionHeld3
namespace Go.Proofs.YtachhbbofemfdaaDoor
open Go.RowKit
set_option linter.unusedSimpArgs false
set_option linter.unusedVariables false
set_option maxRecDepth 100000
abbrev XT := (Int × List Int) × (Option Addr × Nat)
def rowX : List XT → List Value
  | [] => []
  | t :: r => .int .i64 t.1.1 :: .slice t.2.1 t.1.2.length t.2.2 :: rowX r
theorem rowX_len : ∀ T : List XT, (rowX T).length = T.length * 2
  | [] => rfl
  | t :: r => by simp only [rowX, List.length_cons, rowX_len r]; omega
theorem rowX_app : ∀ (T : List XT) (u : XT), rowX (T ++ [u]) = rowX T ++ [.int .i64 u.1.1, .slice u.2.1 u.1.2.length u.2.2]
  | [], u => rfl
  | t :: r, u => by simp only [List.cons_append, rowX, rowX_app r u]
theorem rowX_at : ∀ (T : List XT) (k : Nat) (h : k < T.length), (rowX T)[k * 2]? = some (.int .i64 (T[k]'h).1.1) ∧ (rowX T)[k * 2 + 1]? = some (.slice (T[k]'h).2.1 (T[k]'h).1.2.length (T[k]'h).2.2)
  | [], k, h => by simp at h
  | t :: r, 0, h => ⟨rfl, rfl⟩
  | t :: r, k + 1, h => by
    have := rowX_at r k (by simpa using h)
    have e : (k + 1) * 2 = k * 2 + 1 + 1 := by omega
    rw [e]
    exact this
/-- the call's own list of fields, each with its own bytes -/
def XOT (w : World) (lo : Nat) (A : Option Addr) (c : Nat) (T : List XT) : Prop := w.ownsRow lo 62 2 (.slice A T.length c) T.length (rowX T) ∧ ∀ t ∈ T, Ow w lo t.2.1 t.2.2 t.1.2
def flds (T : List XT) : Flds := T.map (·.1)
theorem flds_len (T : List XT) : (flds T).length = T.length := by simp [flds]
theorem flds_snoc (T : List XT) (u : XT) : flds (T ++ [u]) = flds T ++ [u.1] := by simp [flds]
def XO (w : World) (lo : Nat) (A : Option Addr) (c : Nat) (L : Flds) : Prop := ∃ T : List XT, flds T = L ∧ XOT w lo A c T
section
variable {w w' : World} {lo c : Nat} {A : Option Addr} {L : Flds} {T : List XT}
theorem XOT.nil (w : World) (lo : Nat) : XOT w lo none 0 [] := ⟨World.ownsRow_nil _ _ _ _, fun t ht => by cases ht⟩
theorem XO.nil (w : World) (lo : Nat) : XO w lo none 0 [] := ⟨[], rfl, XOT.nil w lo⟩
theorem own_nil' {E : TypeId} {size n : Nat} {xs : List Value} (h : w.ownsRow lo E size (.slice A n c) n xs) : A = none → n = 0 ∧ c = 0 := fun hA => by
  subst hA
  rcases h.2 with ⟨h1, _⟩ | ⟨g, cap, cur, h1, _⟩
  · injection h1 with _ h2 h3; exact ⟨h2, h3⟩
  · injection h1 with h2; cases h2
theorem XOT.cap (h : XOT w lo A c T) : T.length ≤ c ∧ c ≤ 9223372036854775807 ∧ (A = none → T.length = 0 ∧ c = 0) := by
  obtain ⟨h2, _⟩ := h
  refine ⟨?_, ?_, own_nil' h2⟩
  · rcases h2.2 with ⟨h3, h4⟩ | ⟨g, cap, cur, h3, _, _, h5, _⟩
    · injection h3 with _ h5 h6; omega
    · injection h3 with _ _ h6; omega
  · rcases h2.2 with ⟨h3, h4⟩ | ⟨g, cap, cur, h3, _, _, _, h5, _⟩
    · injection h3 with _ h5 h6; omega
    · injection h3 with _ _ h6; unfold maxLen at h5; omega
theorem XOT.keep (h : XOT w lo A c T) (hk : ∀ b, lo ≤ b → b < w.heap.size → w'.heap[b]? = w.heap[b]?) : XOT w' lo A c T :=
  ⟨own_kept h.1 fun g hg => hk g (h.1.lt g hg).1 (h.1.lt g hg).2, fun t ht => ⟨(h.2 t ht).1, own_kept (h.2 t ht).2 fun g hg => hk g ((h.2 t ht).2.lt g hg).1 ((h.2 t ht).2.lt g hg).2⟩⟩
theorem XOT.below {B : Nat} (h : XOT w lo A c T) (hb : Below B w w') (h1 : w.heap.size ≤ B) : XOT w' lo A c T := h.keep fun b _ h2 => hb.block b (by omega)
theorem XOT.alloc (h : XOT w lo A c T) (o : Obj) : XOT (w.alloc o) lo A c T := h.keep fun b _ h2 => heap_alloc_old w o h2
theorem XO.keep (h : XO w lo A c L) (hk : ∀ b, lo ≤ b → b < w.heap.size → w'.heap[b]? = w.heap[b]?) : XO w' lo A c L := by
  obtain ⟨T, h1, h2⟩ := h
  exact ⟨T, h1, h2.keep hk⟩
theorem XO.below {B : Nat} (h : XO w lo A c L) (hb : Below B w w') (h1 : w.heap.size ≤ B) : XO w' lo A c L := h.keep fun b _ h2 => hb.block b (by omega)
theorem XO.alloc (h : XO w lo A c L) (o : Obj) : XO (w.alloc o) lo A c L := h.keep fun b _ h2 => heap_alloc_old w o h2
theorem XO.drew (h : XO w lo A c L) : XO w.drew lo A c L := h
theorem XO.but {g : Nat} (h : XO w lo A c L) (hg : But g w w') (hlt : g < lo) : XO w' lo A c L := h.keep fun b h1 h2 => hg.block b h2 (by simp; omega)
theorem XO.cap (h : XO w lo A c L) : L.length ≤ c ∧ c ≤ 9223372036854775807 ∧ (A = none → L.length = 0 ∧ c = 0) := by
  obtain ⟨T, rfl, h2⟩ := h
  rw [flds_len]
  exact h2.cap
theorem XO.wide {lo' : Nat} (h : XO w lo A c L) (hl : lo' ≤ lo) : XO w lo' A c L := by
  obtain ⟨T, h1, h2, h3⟩ := h
  refine ⟨T, h1, ⟨h2.1, ?_⟩, fun t ht => (h3 t ht).wide hl⟩
  rcases h2.2 with h4 | ⟨g, cap, cur, e1, e2, e3⟩
  · exact .inl h4
  · exact .inr ⟨g, cap, cur, e1, by omega, e3⟩
theorem XO.byt (h : XO w lo A c L) : ∀ t ∈ L, Byt t.2 := by
  obtain ⟨T, rfl, _, h3⟩ := h
  intro t ht
  obtain ⟨u, hu, rfl⟩ := List.mem_map.1 ht
  exact (h3 u hu).1
/-- the list, read -/
theorem XO.xs (h : XO w lo A c L) : Xs w w.heap.size A L := by
  obtain ⟨T, rfl, h2, h3⟩ := h
  intro hp
  rw [flds_len] at hp
  obtain ⟨g, cap, e, h4, h5, _, _, hc⟩ := own_form h2 hp
  have hA : A = some ⟨g, 0, none⟩ := by injection e
  subst hA
  refine ⟨g, 0, rfl, h5, fun k hk => ?_⟩
  rw [flds_len] at hk
  obtain ⟨r0, r1⟩ := rowX_at T k hk
  have hO := h3 (T[k]) (List.getElem_mem hk)
  have e0 : kdL (flds T) k = (T[k]).1.1 := by unfold kdL flds; rw [List.getD_eq_getElem?_getD, List.getElem?_map, List.getElem?_eq_getElem hk]; rfl
  have e1 : dtL (flds T) k = (T[k]).1.2 := by unfold dtL flds; rw [List.getD_eq_getElem?_getD, List.getElem?_map, List.getElem?_eq_getElem hk]; rfl
  rw [e0, e1, Nat.zero_add]
  refine ⟨(T[k]).2.1, (T[k]).2.2, (hc _ (by omega)).trans r0, (hc _ (by omega)).trans r1, hO.bs.wide (Nat.zero_le _) (Nat.le_refl _), hO.cap_le, hO.cap_max, fun hn => ?_⟩
  rcases hO.form with ⟨_, hl, hc⟩ | ⟨g', hg', _⟩
  · exact ⟨by rw [hl]; rfl, hc⟩
  · rw [hn] at hg'; cases hg'
/-- two rows of other types do not share a block -/
theorem own_types {lo' n n' size size' : Nat} {E E' : TypeId} {v v' : Value} {xs xs' : List Value} (h : w.ownsRow lo E size v n xs) (h' : w.ownsRow lo' E' size' v' n' xs') (hne : E ≠ E') : ∀ g, v.ownBlock = some g → v'.ownBlock ≠ some g := fun g hg hg' => by
  rcases h.2 with ⟨e, _⟩ | ⟨b, cap, cur, e, _, hb, _⟩
  · rw [e] at hg; simp [Value.ownBlock] at hg
  · rcases h'.2 with ⟨e', _⟩ | ⟨b', cap', cur', e', _, hb', _⟩
    · rw [e'] at hg'; simp [Value.ownBlock] at hg'
    · rw [e] at hg; rw [e'] at hg'
      simp [Value.ownBlock] at hg hg'
      subst hg
      subst hg'
      rw [hb] at hb'
      injection hb' with hb'
      injection hb' with _ ht
      exact hne ht
/-- one field more -/
theorem xo_push {w1 : World} {v v' : Value} {A1 : Option Addr} {c1 : Nat} {kd : Int} {dt : List Int} (hT : ∀ t ∈ T, Ow w lo t.2.1 t.2.2 t.1.2) (hrow : w.ownsRow lo 62 2 v T.length (rowX T)) (hd : Ow w lo A1 c1 dt)
    (hr : w1.ownsRow lo 62 2 v' (T.length + 1) (rowX T ++ [.int .i64 kd, .slice A1 dt.length c1])) (hg : w.grownBy w1 v.ownBlock) : ∃ A' c', v' = .slice A' (T.length + 1) c' ∧ XOT w1 lo A' c' (T ++ [((kd, dt), (A1, c1))]) := by
  have key : ∀ {A : Option Addr} {c : Nat} {l : List Int}, Ow w lo A c l → Ow w1 lo A c l := fun {A c l} h => ⟨h.1, own_kept h.2 fun g hgg => hg.block g (h.2.lt g hgg).2 (fun e => own_types hrow h.2 (by decide) g e.symm hgg)⟩
  obtain ⟨g, cap, rfl, _⟩ := own_form hr (by omega)
  refine ⟨_, _, rfl, ?_, fun t ht => ?_⟩
  · rw [List.length_append, rowX_app]
    exact hr
  · rcases List.mem_append.1 ht with ht | ht
    · exact key (hT t ht)
    · rw [List.mem_singleton.1 ht]; exact key hd
end
theorem infoExt : (Tryd.prog.info? 62).map (fun i => (i.zero, i.size, i.bytes)) = some (some (.agg #[.int .i64 0, .slice none 0 0]), 2, 32) := by kernel_rfl
/-- the state of Parse's loop -/
def ParR (w0 : World) (PR : Flds × List Int × Int) (wr : World) (bv lv : Value) : Prop :=
  ∃ (T : List XT) (A : Option Addr) (c : Nat) (B : Option Addr) (n cb : Nat) (rest : List Int) (f : Nat), lv = .slice A T.length c ∧ XOT wr w0.heap.size A c T ∧ bv = .slice B n cb ∧ rest.length = n ∧ Bs wr 0 w0.heap.size B rest ∧ n ≤ cb ∧ cb ≤ 9223372036854775807 ∧ n ≤ f ∧ n ≤ 1000000 ∧ prs f (flds T) rest = PR ∧ T.length ≤ 16 ∧ Below w0.heap.size w0 wr
def lenV : Value → Nat
  | .slice _ n _ => n
  | _ => 0
theorem prs_end {f : Nat} {acc : Flds} {l : List Int} {PR : Flds × List Int × Int} (h : prs f acc l = PR) (h0 : l.length = 0) : PR = (acc, [], 0) := by
  rw [← h]
  cases f with
  | zero => rfl
  | succ f => rw [prs, if_pos h0]
theorem prs_auth {f : Nat} {acc : Flds} {l : List Int} {PR : Flds × List Int × Int} (h : prs f acc l = PR) (hf : l.length ≤ f) (h0 : l.length = 12) : PR = (acc, l, 0) := by
  rw [← h]
  cases f with
  | zero => omega
  | succ f => rw [prs, if_neg (by omega), if_pos h0]
theorem prs_short {f : Nat} {acc : Flds} {l : List Int} {PR : Flds × List Int × Int} (h : prs f acc l = PR) (hf : l.length ≤ f) (h0 : l.length ≠ 0) (h1 : l.length ≠ 12) (h2 : l.length < 16) : PR = ([], [], 5) := by
  rw [← h]
  cases f with
  | zero => omega
  | succ f => rw [prs, if_neg h0, if_neg h1, if_pos h2]
theorem prs_form {f : Nat} {acc : Flds} {l : List Int} {PR : Flds × List Int × Int} (h : prs f acc l = PR) (hf : l.length ≤ f) (h2 : 16 ≤ l.length) (h3 : psz l < 16 ∨ psz l % 4 ≠ 0) : PR = ([], [], 7) := by
  rw [← h]
  cases f with
  | zero => omega
  | succ f => rw [prs, if_neg (by omega), if_neg (by omega), if_neg (by omega), if_pos h3]
theorem prs_short2 {f : Nat} {acc : Flds} {l : List Int} {PR : Flds × List Int × Int} (h : prs f acc l = PR) (hf : l.length ≤ f) (h2 : 16 ≤ l.length) (h3 : ¬(psz l < 16 ∨ psz l % 4 ≠ 0)) (h4 : l.length < psz l) : PR = ([], [], 5) := by
  rw [← h]
  cases f with
  | zero => omega
  | succ f => rw [prs, if_neg (by omega), if_neg (by omega), if_neg (by omega), if_neg h3, if_pos h4]
theorem prs_long {f : Nat} {acc : Flds} {l : List Int} {PR : Flds × List Int × Int} (h : prs f acc l = PR) (hf : l.length ≤ f) (h2 : 16 ≤ l.length) (h3 : ¬(psz l < 16 ∨ psz l % 4 ≠ 0)) (h4 : psz l ≤ l.length) (h5 : acc.length = 16 ∨ 260 < psz l) : PR = ([], [], 6) := by
  rw [← h]
  cases f with
  | zero => omega
  | succ f => rw [prs, if_neg (by omega), if_neg (by omega), if_neg (by omega), if_neg h3, if_neg (by omega), if_pos h5]
theorem prs_next {f : Nat} {acc : Flds} {l : List Int} {PR : Flds × List Int × Int} (h : prs f acc l = PR) (hf : l.length ≤ f) (h2 : 16 ≤ l.length) (h3 : ¬(psz l < 16 ∨ psz l % 4 ≠ 0)) (h4 : psz l ≤ l.length) (h5 : ¬(acc.length = 16 ∨ 260 < psz l)) : ∃ f', (l.drop (psz l)).length ≤ f' ∧ prs f' (acc ++ [(pkd l, (l.take (psz l)).drop 4)]) (l.drop (psz l)) = PR := by
  cases f with
  | zero => omega
  | succ f =>
    refine ⟨f, by rw [List.length_drop]; omega, ?_⟩
    rw [← h, prs, if_neg (by omega), if_neg (by omega), if_neg (by omega), if_neg h3, if_neg (by omega), if_neg h5]
open Go.RowKit
theorem get_kd (A : Option Addr) (n c lo hi : Nat) (l : List Int) (w : World) (hn : l.length = n) (h : Bs w lo hi A l) (hm : n ≤ c) (hc : c ≤ 9223372036854775807) (h16 : 16 ≤ n) :
    Calls Tryd.prog 91 #[.slice A n c, .int .i64 0, .int .i64 2] w fun e w' => e = .returned (.tuple #[.int .u64 (pkd l), .int .i64 0]) ∧ w = w' := by
  have h1 := get_any A n c lo hi l 0 2 w hn h hm hc (by omega)
  unfold getR at h1
  rw [getE_0 (by omega) (by omega)] at h1
  exact h1
theorem get_sz (A : Option Addr) (n c lo hi : Nat) (l : List Int) (w : World) (hn : l.length = n) (h : Bs w lo hi A l) (hm : n ≤ c) (hc : c ≤ 9223372036854775807) (h16 : 16 ≤ n) :
    Calls Tryd.prog 91 #[.slice A n c, .int .i64 2, .int .i64 2] w fun e w' => e = .returned (.tuple #[.int .u64 ((psz l : Nat) : Int), .int .i64 0]) ∧ w = w' := by
  have h1 := get_any A n c lo hi l 2 2 w hn h hm hc (by omega)
  unfold getR at h1
  rw [getE_0 (by omega) (by omega)] at h1
  have e : ((psz l : Nat) : Int) = numB ((l.drop 2).take 2) := by
    have := (numB_range ((l.drop 2).take 2)).1
    unfold psz
    omega
  rw [e]
  exact h1
end Go.Proofs.YtachhbbofemfdaaDoor
namespace Go.Proofs.YtachhbbofemfdaaDoor
open Go.RowKit
set_option linter.unusedSimpArgs false
set_option linter.unusedVariables false
set_option maxRecDepth 100000
/-- what Parse returns -/
def ParPost (PR : Flds × List Int × Int) (w : World) (e : Ending) (w' : World) : Prop :=
  ∃ (A : Option Addr) (c : Nat) (A2 : Option Addr) (c2 N N2 : Nat) (w1 : World), e = .returned (.tuple #[.slice A N c, .slice A2 N2 c2, .int .i64 PR.2.2]) ∧ PR.1.length = N ∧ PR.2.1.length = N2 ∧ XO w1 w.heap.size A c PR.1 ∧ Below w.heap.size w w1 ∧ Below w1.heap.size w1 w' ∧ Ow w' w1.heap.size A2 c2 PR.2.1
theorem par_err {w wr : World} {E : Int} (h : Below w.heap.size w wr) : ParPost ([], [], E) w (.returned (.tuple #[.slice none 0 0, .slice none 0 0, .int .i64 E])) wr :=
  ⟨none, 0, none, 0, 0, 0, wr, rfl, rfl, rfl, XO.nil _ _, h, Below.refl _ _, Ow.nil _ _⟩
theorem cells2_of {w : World} {g : Nat} {t : TypeId} {cs : List Value} (h : Blk w g t cs) : ∀ j u, cs[j]? = some u → w.cell? ((⟨g, 0, none⟩ : Addr).add j) = some u := fun j u hu => by
  rw [ofAdd, Nat.zero_add]
  exact h.cell hu
set_option maxHeartbeats 16000000 in
theorem parse_any (A : Option Addr) (n c : Nat) (l : List Int) (w : World) (hn : l.length = n) (h : Bs w 0 w.heap.size A l) (hm : n ≤ c) (hc : c ≤ 9223372036854775807) (hn2 : n ≤ 1000000) :
    Calls Tryd.prog 59 #[.slice A n c] w (ParPost (prs l.length [] l) w) := by
  obtain ⟨PR, hPR⟩ : ∃ PR, prs l.length [] l = PR := ⟨_, rfl⟩
  rw [hPR]
  have HP := Lib.hid hPR
  clear hPR
  go_enter Tryd.func59, Tryd.ntmps59
  go_wp2
  go_loopw [0, 5] (fun b lv wr => ParR w PR wr b lv) (fun b _ _ => lenV b)
  case atStart => exact ⟨[], none, 0, A, n, c, l, n, rfl, XOT.nil _ _, rfl, hn, h, hm, hc, Nat.le_refl _, hn2, by rw [← hn]; exact HP.out, by simp, Below.refl _ _⟩
  case round =>
    obtain ⟨T, A1, c1, B, m, cb, rest, f, rfl, hX, rfl, hr, hB, hmc, hcb, hmf, hm6, hprs, h16, hBw⟩ := hrel
    clear h hn HP
    by_cases h0 : m = 0
    · subst h0
      obtain rfl := prs_end hprs hr
      go_wp2
      go_ret3
      exact ⟨A1, c1, none, 0, T.length, 0, wr, rfl, flds_len T, rfl, ⟨T, rfl, hX⟩, hBw, Below.refl _ _, Ow.nil _ _⟩
    by_cases h12 : m = 12
    · subst h12
      obtain rfl := prs_auth hprs (by omega) hr
      have hE := clone_any B 12 cb 0 w.heap.size rest wr hr hB hBw.size (by omega) (fun hn => by
        obtain ⟨b, o, hb, _⟩ := hB.at (by omega)
        rw [hn] at hb; cases hb)
      clear hprs
      have HR := Lib.hid hr
      clear hr
      go_wp2_with fail
      with_reducible refine hE.mono ?_
      rintro e w2 ⟨A4, c4, rfl, O4, z4, b4⟩
      go_wp2
      go_ret3
      exact ⟨A1, c1, A4, c4, T.length, 12, wr, rfl, flds_len T, HR.out, ⟨T, rfl, hX⟩, hBw, b4, O4⟩
    have hm0 : 0 < m := by omega
    have d12 : ((m : Int) == 12) = false := by simp; omega
    by_cases hs : m < 16
    · obtain rfl := prs_short hprs (by omega) (by omega) (by omega) (by omega)
      have d16 : decide ((m : Int) < 16) = true := decide_eq_true (by omega)
      clear hprs hr h0 h12 hs
      go_wp2
      go_ret3
      exact par_err hBw
    have d16 : decide ((m : Int) < 16) = false := decide_eq_false (by omega)
    have hG1 := get_kd B m cb 0 _ rest wr hr hB hmc hcb (by omega)
    have hG2 := get_sz B m cb 0 _ rest wr hr hB hmc hcb (by omega)
    have hkr := pkd_rng rest hB.byt
    have hzr := psz_le rest hB.byt
    obtain ⟨Z, hZ⟩ : ∃ Z, Z = psz rest := ⟨_, rfl⟩
    obtain ⟨KD, hKD⟩ : ∃ KD, KD = pkd rest := ⟨_, rfl⟩
    rw [← hZ] at hG2 hzr
    rw [← hKD] at hG1 hkr
    obtain ⟨hk0, hk1⟩ := hkr
    have hzI : (Z : Int) ≤ 65535 := by omega
    have hm16 : 16 ≤ m := by omega
    clear h0 h12 hs
    by_cases hf : Z < 16 ∨ Z % 4 ≠ 0
    · obtain rfl := prs_form hprs (by omega) (by omega) (by rw [← hZ]; exact hf)
      have HZ := Lib.hid hZ
      have HKD := Lib.hid hKD
      clear hprs hr hZ hKD
      by_cases hz1 : Z < 16
      · have e1 : decide ((Z : Int) < 16) = true := decide_eq_true (by omega)
        clear hf hz1
        go_wp2_with (first
          | (go_at_call 91; ((with_reducible refine hG1.mono ?_); rintro e _ ⟨rfl, rfl⟩))
          | (go_at_call 91; ((with_reducible refine hG2.mono ?_); rintro e _ ⟨rfl, rfl⟩)))
        go_ret3
        exact par_err hBw
      · have e1 : decide ((Z : Int) < 16) = false := decide_eq_false (by omega)
        have e2 : ((Z : Int) % 4 != 0) = true := by simp; omega
        clear hf hz1
        go_wp2_with (first
          | (go_at_call 91; ((with_reducible refine hG1.mono ?_); rintro e _ ⟨rfl, rfl⟩))
          | (go_at_call 91; ((with_reducible refine hG2.mono ?_); rintro e _ ⟨rfl, rfl⟩)))
        go_ret3
        exact par_err hBw
    have e1 : decide ((Z : Int) < 16) = false := decide_eq_false (by omega)
    have e2 : ((Z : Int) % 4 != 0) = false := by simp; omega
    have hz16 : (16 : Int) ≤ Z := by omega
    by_cases hlt : m < Z
    · obtain rfl := prs_short2 hprs (by omega) (by omega) (by rw [← hZ]; exact hf) (by omega)
      have HZ := Lib.hid hZ
      have HKD := Lib.hid hKD
      clear hprs hr hZ hKD hf
      go_wp2_with (first
        | (go_at_call 91; ((with_reducible refine hG1.mono ?_); rintro e _ ⟨rfl, rfl⟩))
        | (go_at_call 91; ((with_reducible refine hG2.mono ?_); rintro e _ ⟨rfl, rfl⟩)))
      go_ret3
      exact par_err hBw
    have hzm : Z ≤ m := by omega
    have hzmI : (Z : Int) ≤ m := by omega
    have e3 : decide (m < Z) = false := decide_eq_false hlt
    by_cases hl : T.length = 16 ∨ 260 < Z
    · obtain rfl := prs_long hprs (by omega) (by omega) (by rw [← hZ]; exact hf) (by omega) (by rw [flds_len, ← hZ]; exact hl)
      have HZ := Lib.hid hZ
      have HKD := Lib.hid hKD
      clear hprs hr hZ hKD hf hlt
      by_cases hl1 : T.length = 16
      · have e4 : ((T.length : Int) == 16) = true := by simp; omega
        clear hl hl1
        go_wp2_with (first
          | (go_at_call 91; ((with_reducible refine hG1.mono ?_); rintro e _ ⟨rfl, rfl⟩))
          | (go_at_call 91; ((with_reducible refine hG2.mono ?_); rintro e _ ⟨rfl, rfl⟩)))
        go_ret3
        exact par_err hBw
      · have e4 : ((T.length : Int) == 16) = false := by simp; omega
        have e5 : decide (256 < (Z : Int) - 4) = true := decide_eq_true (by omega)
        clear hl hl1
        go_wp2_with (first
          | (go_at_call 91; ((with_reducible refine hG1.mono ?_); rintro e _ ⟨rfl, rfl⟩))
          | (go_at_call 91; ((with_reducible refine hG2.mono ?_); rintro e _ ⟨rfl, rfl⟩)))
        go_ret3
        exact par_err hBw
    have e4 : ((T.length : Int) == 16) = false := by simp; omega
    have e5 : decide (256 < (Z : Int) - 4) = false := decide_eq_false (by omega)
    have hz260 : Z ≤ 260 := by omega
    have hT16 : T.length < 16 := by omega
    obtain ⟨f', hf', hp'⟩ := prs_next hprs (by omega) (by omega) (by rw [← hZ]; exact hf) (by omega) (by rw [flds_len, ← hZ]; exact hl)
    obtain ⟨b, o, rfl, _, hbw, _⟩ := hB.at (by omega)
    have hB4 := (hB.take Z).dropm 4
    have hl4 : ((rest.take Z).drop 4).length = Z - 4 := by rw [List.length_drop, List.length_take]; omega
    have hZn := hB.drop (i := Z) (c := cb) (by omega)
    rw [← hZ, ← hKD] at hp'
    rw [← hZ] at hf'
    have hlZ : (rest.drop Z).length = m - Z := by rw [List.length_drop, hr]
    rw [hlZ] at hf'
    generalize (rest.take Z).drop 4 = dt at hB4 hl4 hp'
    generalize rest.drop Z = rest' at hZn hlZ hp'
    have HP := Lib.hid hp'
    have HL4 := Lib.hid hl4
    have HLZ := Lib.hid hlZ
    have HZ := Lib.hid hZ
    have HKD := Lib.hid hKD
    clear hprs hr hZ hKD hf hlt hl hp' hl4 hlZ
    simp only [Option.map, ofAdd] at hB4 hZn
    have hmcI : (m : Int) ≤ cb := by omega
    have hE := clone_any (some ⟨b, o + 4, none⟩) (Z - 4) (Z - 4) 0 w.heap.size dt wr HL4.out hB4 hBw.size (by omega) (fun h => by cases h)
    go_wp2_with (first
      | (go_at_call 91; ((with_reducible refine hG1.mono ?_); rintro e _ ⟨rfl, rfl⟩))
      | (go_at_call 91; ((with_reducible refine hG2.mono ?_); rintro e _ ⟨rfl, rfl⟩)))
    with_reducible refine hE.mono ?_
    rintro e w2 ⟨A4, c4, rfl, O4, z4, b4⟩
    have B2 := hBw.trans (b4.mono hBw.size)
    have X2 := (hX.below b4 (Nat.le_refl _)).alloc (.cells #[.int .i64 KD, .slice A4 (Z - 4) c4] 62)
    have O2 := (O4.wide hBw.size).alloc (.cells #[.int .i64 KD, .slice A4 (Z - 4) c4] 62)
    have R2 := hZn.below b4 hBw.size
    have Jn := cells2_of (Blk.new w2 62 #[.int .i64 KD, .slice A4 (Z - 4) c4] [.int .i64 KD, .slice A4 (Z - 4) c4] rfl)
    have Hn := Lib.hid Jn
    have zb := hBw.size
    have hb4 : w.heap.size ≤ w2.heap.size := Nat.le_trans zb z4
    clear hE hX b4 hZn hB4 Jn hB hBw z4 hG1 hG2 zb O4
    go_wp2_with (first | (at_builtin; refine wpl_append (by rfl) _ _ 42 (by rfl) 62 (.agg #[.int .i64 0, .slice none 0 0]) 2 32 Tryd.underlying42 infoExt rfl (by omega) (.slice A1 T.length c1) T.length (rowX T) w.heap.size (by rfl) X2.1 ⟨w2.heap.size, 0, none⟩ 1 1 (by rfl) [.int .i64 KD, .slice A4 (Z - 4) c4] rfl Hn.out (by simp [Value.oneCell']) (by omega) (by omega) (by simp; omega) ?_; intro v3 w3 ho3 b3 hg3; obtain ⟨A5, c5, rfl, X5⟩ := xo_push (kd := KD) X2.2 X2.1 O2 (by rw [HL4.out]; exact ho3) hg3))
    have B3 : Below w.heap.size w w3 := (B2.alloc hb4 _).trans b3
    have R3 : Bs w3 0 w.heap.size (if cb = Z then some ⟨b, o, none⟩ else some ⟨b, o + Z, none⟩) rest' := (R2.alloc hb4 _).below b3 (Nat.le_refl _)
    exact ⟨⟨T ++ [((KD, dt), (A4, c4))], A5, c5, _, m - Z, cb - Z, rest', f', by simp, X5, rfl, HLZ.out, R3, by omega, by omega, hf', by omega, by rw [flds_snoc]; exact HP.out, by simp; omega, B3⟩, by simp [lenV]; omega⟩
end Go.Proofs.YtachhbbofemfdaaDoor
namespace Go.Proofs.YtachhbbofemfdaaDoor
open Go.RowKit
set_option linter.unusedSimpArgs false
set_option linter.unusedVariables false
set_option maxRecDepth 100000
theorem rpget_kd (A : Option Addr) (n c lo hi at_ : Nat) (l : List Int) (w : World) (hn : l.length = n) (h : Bs w lo hi A l) (hm : n ≤ c) (hc : c ≤ 9223372036854775807) (h16 : at_ + 16 ≤ n) :
    Calls Tryd.prog 67 #[.slice A n c, .int .i64 at_, .int .i64 2] w fun e w' => e = .returned (.tuple #[.int .u64 (pkd (l.drop at_)), .int .i64 0]) ∧ w = w' := by
  have h1 := rget_any A n c lo hi l at_ 2 w hn h hm hc (by omega)
  unfold getR at h1
  rw [getE_0 (by omega) (by omega)] at h1
  have e : getV l at_ 2 = pkd (l.drop at_) := by unfold getV pkd; simp
  rw [e] at h1
  exact h1
theorem rpget_sz (A : Option Addr) (n c lo hi at_ : Nat) (l : List Int) (w : World) (hn : l.length = n) (h : Bs w lo hi A l) (hm : n ≤ c) (hc : c ≤ 9223372036854775807) (h16 : at_ + 16 ≤ n) :
    Calls Tryd.prog 67 #[.slice A n c, .int .i64 ((at_ : Int) + 2), .int .i64 2] w fun e w' => e = .returned (.tuple #[.int .u64 ((psz (l.drop at_) : Nat) : Int), .int .i64 0]) ∧ w = w' := by
  have h1 := rget_any A n c lo hi l ((at_ : Int) + 2) 2 w hn h hm hc (by omega)
  unfold getR at h1
  rw [getE_0 (by omega) (by omega)] at h1
  have e : getV l ((at_ : Int) + 2) 2 = ((psz (l.drop at_) : Nat) : Int) := by
    have := (numB_range (((l.drop at_).drop 2).take 2)).1
    have e2 : (l.drop ((at_ : Int) + 2).toNat).take (2 : Int).toNat = ((l.drop at_).drop 2).take 2 := by
      rw [show ((at_ : Int) + 2).toNat = at_ + 2 by omega, ← List.drop_drop]; rfl
    unfold getV psz
    rw [e2]
    omega
  rw [e] at h1
  exact h1
/-- the state of the loop -/
def RParR (w0 : World) (PR : Flds × List Int × Int) (l : List Int) (wr : World) (av lv : Value) : Prop :=
  ∃ (T : List XT) (A : Option Addr) (c k f : Nat), lv = .slice A T.length c ∧ XOT wr w0.heap.size A c T ∧ av = .int .i64 k ∧ k ≤ l.length ∧ l.length - k ≤ f ∧ prs f (flds T) (l.drop k) = PR ∧ T.length ≤ 16 ∧ Below w0.heap.size w0 wr
set_option maxHeartbeats 16000000 in
theorem rparse_any (A : Option Addr) (n c : Nat) (l : List Int) (w : World) (hn : l.length = n) (h : Bs w 0 w.heap.size A l) (hm : n ≤ c) (hc : c ≤ 9223372036854775807) (hn2 : n ≤ 1000000) :
    Calls Tryd.prog 66 #[.slice A n c] w (ParPost (prs l.length [] l) w) := by
  obtain ⟨PR, hPR⟩ : ∃ PR, prs l.length [] l = PR := ⟨_, rfl⟩
  rw [hPR]
  have HP := Lib.hid hPR
  have HNl := Lib.hid hn
  clear hPR hn
  go_enter Tryd.func66, Tryd.ntmps66
  go_wp2
  go_loopw [6, 5] (fun a lv wr => RParR w PR l wr a lv) (fun a _ _ => n - (intOf a).toNat)
  case atStart => exact ⟨[], none, 0, 0, l.length, rfl, XOT.nil _ _, rfl, by omega, by omega, HP.out, by simp, Below.refl _ _⟩
  case round =>
    obtain ⟨T, A1, c1, k, f, rfl, hX, rfl, hk, hmf, hprs, h16, hBw⟩ := hrel
    have hB := h.below hBw (Nat.le_refl _)
    rw [HNl.out] at hk hmf
    have hr : (l.drop k).length = n - k := by rw [List.length_drop, HNl.out]
    clear h HP
    by_cases h0 : k = n
    · subst h0
      obtain rfl := prs_end hprs (by omega)
      clear hprs hr hmf
      have d0 : decide (k < k) = false := decide_eq_false (by omega)
      go_wp2
      go_ret3
      exact ⟨A1, c1, none, 0, T.length, 0, wr, rfl, flds_len T, rfl, ⟨T, rfl, hX⟩, hBw, Below.refl _ _, Ow.nil _ _⟩
    have hkn : k < n := by omega
    have hknI : (k : Int) < n := by omega
    obtain ⟨b, o, hA, _, hbw, _⟩ := hB.at (by rw [HNl.out]; omega)
    subst hA
    obtain ⟨M, hM⟩ : ∃ M, M = n - k := ⟨_, rfl⟩
    have hMI : (n : Int) - k = M := by omega
    have hM0 : 0 < M := by omega
    have hkM : k + M = n := by omega
    have hk0 : (0 : Int) ≤ k := by omega
    have hD := hB.dropm k
    simp only [Option.map, ofAdd] at hD
    have d0 : decide (k < n) = true := decide_eq_true hkn
    by_cases h12 : M = 12
    · obtain rfl := prs_auth hprs (by omega) (by omega)
      have O1 := ow_empty' (lo := wr.heap.size) (Blk.new wr 5 #[] [] rfl) (Nat.le_refl _)
      have D1 := hD.alloc hBw.size (.cells #[] 5)
      have HR := Lib.hid hr
      have HM := Lib.hid hM
      have e12 : ((M : Int) == 12) = true := by simp; omega
      have hm12 : n - k ≤ 1000000 := by omega
      clear hprs hr hD hM h12
      go_wp2_with (first | (at_builtin; refine wpList_append_bs rfl (.tmp 24) (.tmp 27) rfl 0 0 (n - k) (c - k) (by rfl) (by rfl) rfl HR.out O1 D1 (by omega) (by simp) ?_; intro A4 c4 w4 O4 b4 _))
      go_ret3
      exact ⟨A1, c1, A4, c4, T.length, n - k, wr, by simp, flds_len T, HR.out, ⟨T, rfl, hX⟩, hBw, ((Below.refl _ _).alloc (Nat.le_refl _) _).trans b4, by simpa using O4⟩
    have e12 : ((M : Int) == 12) = false := by simp; omega
    by_cases hs : M < 16
    · obtain rfl := prs_short hprs (by omega) (by omega) (by omega) (by omega)
      have d16 : decide ((M : Int) < 16) = true := decide_eq_true (by omega)
      clear hprs hr hM h12 hs hD
      go_wp2
      go_ret3
      exact par_err hBw
    have d16 : decide ((M : Int) < 16) = false := decide_eq_false (by omega)
    have hG1 := rpget_kd (some ⟨b, o, none⟩) n c 0 _ k l wr HNl.out hB hm hc (by omega)
    have hG2 := rpget_sz (some ⟨b, o, none⟩) n c 0 _ k l wr HNl.out hB hm hc (by omega)
    obtain ⟨rest, hrest⟩ : ∃ rest, l.drop k = rest := ⟨_, rfl⟩
    rw [hrest] at hG1 hG2 hprs hr hD
    have hkr := pkd_rng rest hD.byt
    have hzr := psz_le rest hD.byt
    obtain ⟨Z, hZ⟩ : ∃ Z, Z = psz rest := ⟨_, rfl⟩
    obtain ⟨KD, hKD⟩ : ∃ KD, KD = pkd rest := ⟨_, rfl⟩
    rw [← hZ] at hG2 hzr
    rw [← hKD] at hG1 hkr
    obtain ⟨hkd0, hkd1⟩ := hkr
    have hzI : (Z : Int) ≤ 65535 := by omega
    have hm16 : 16 ≤ M := by omega
    have hrM : rest.length = M := by omega
    rw [← hM] at hmf
    have HM := Lib.hid hM
    have HRest := Lib.hid hrest
    clear h12 hs hr hM hrest
    by_cases hf : Z < 16 ∨ Z % 4 ≠ 0
    · obtain rfl := prs_form hprs (by omega) (by omega) (by rw [← hZ]; exact hf)
      have HZ := Lib.hid hZ
      have HKD := Lib.hid hKD
      clear hprs hrM hZ hKD
      by_cases hz1 : Z < 16
      · have e1 : decide ((Z : Int) < 16) = true := decide_eq_true (by omega)
        clear hf hz1
        go_wp2_with (first
          | (go_at_call 67; ((with_reducible refine hG1.mono ?_); rintro e _ ⟨rfl, rfl⟩))
          | (go_at_call 67; ((with_reducible refine hG2.mono ?_); rintro e _ ⟨rfl, rfl⟩)))
        go_ret3
        exact par_err hBw
      · have e1 : decide ((Z : Int) < 16) = false := decide_eq_false (by omega)
        have e2 : ((Z : Int) % 4 != 0) = true := by simp; omega
        clear hf hz1
        go_wp2_with (first
          | (go_at_call 67; ((with_reducible refine hG1.mono ?_); rintro e _ ⟨rfl, rfl⟩))
          | (go_at_call 67; ((with_reducible refine hG2.mono ?_); rintro e _ ⟨rfl, rfl⟩)))
        go_ret3
        exact par_err hBw
    have e1 : decide ((Z : Int) < 16) = false := decide_eq_false (by omega)
    have e2 : ((Z : Int) % 4 != 0) = false := by simp; omega
    have hz16 : (16 : Int) ≤ Z := by omega
    by_cases hlt : M < Z
    · obtain rfl := prs_short2 hprs (by omega) (by omega) (by rw [← hZ]; exact hf) (by omega)
      have HZ := Lib.hid hZ
      have HKD := Lib.hid hKD
      clear hprs hrM hZ hKD hf
      go_wp2_with (first
        | (go_at_call 67; ((with_reducible refine hG1.mono ?_); rintro e _ ⟨rfl, rfl⟩))
        | (go_at_call 67; ((with_reducible refine hG2.mono ?_); rintro e _ ⟨rfl, rfl⟩)))
      go_ret3
      exact par_err hBw
    have hzm : Z ≤ M := by omega
    have hzmI : (Z : Int) ≤ M := by omega
    have e3 : decide (M < Z) = false := decide_eq_false hlt
    by_cases hl : T.length = 16 ∨ 260 < Z
    · obtain rfl := prs_long hprs (by omega) (by omega) (by rw [← hZ]; exact hf) (by omega) (by rw [flds_len, ← hZ]; exact hl)
      have HZ := Lib.hid hZ
      have HKD := Lib.hid hKD
      clear hprs hrM hZ hKD hf hlt
      by_cases hl1 : T.length = 16
      · have e4 : ((T.length : Int) == 16) = true := by simp; omega
        clear hl hl1
        go_wp2_with (first
          | (go_at_call 67; ((with_reducible refine hG1.mono ?_); rintro e _ ⟨rfl, rfl⟩))
          | (go_at_call 67; ((with_reducible refine hG2.mono ?_); rintro e _ ⟨rfl, rfl⟩)))
        go_ret3
        exact par_err hBw
      · have e4 : ((T.length : Int) == 16) = false := by simp; omega
        have e5 : decide (256 < (Z : Int) - 4) = true := decide_eq_true (by omega)
        clear hl hl1
        go_wp2_with (first
          | (go_at_call 67; ((with_reducible refine hG1.mono ?_); rintro e _ ⟨rfl, rfl⟩))
          | (go_at_call 67; ((with_reducible refine hG2.mono ?_); rintro e _ ⟨rfl, rfl⟩)))
        go_ret3
        exact par_err hBw
    have e4 : ((T.length : Int) == 16) = false := by simp; omega
    have e5 : decide (256 < (Z : Int) - 4) = false := decide_eq_false (by omega)
    have hz260 : Z ≤ 260 := by omega
    have hT16 : T.length < 16 := by omega
    obtain ⟨f', hf', hp'⟩ := prs_next hprs (by omega) (by omega) (by rw [← hZ]; exact hf) (by omega) (by rw [flds_len, ← hZ]; exact hl)
    have hB4 := hB.dropm (k + 4)
    have hcut : (l.drop (k + 4)).take (Z - 4) = (rest.take Z).drop 4 := by rw [← HRest.out, ← List.drop_drop, List.drop_take]
    have hB5 := hB4.take (Z - 4)
    rw [hcut] at hB5
    have hl4 : ((rest.take Z).drop 4).length = Z - 4 := by rw [List.length_drop, List.length_take]; omega
    rw [← hZ, ← hKD] at hp'
    rw [← hZ, List.length_drop, hrM] at hf'
    rw [← HRest.out, List.drop_drop] at hp'
    rw [HRest.out] at hp'
    generalize (rest.take Z).drop 4 = dt at hB5 hl4 hp'
    have HP := Lib.hid hp'
    have HL4 := Lib.hid hl4
    have HZ := Lib.hid hZ
    have HKD := Lib.hid hKD
    clear hprs hrM hZ hKD hf hlt hl hp' hl4 hcut hB4 hD
    simp only [Option.map, ofAdd] at hB5
    have hnc : (n : Int) ≤ c := by omega
    have hk4 : (k : Int) + 4 ≤ k + Z := by omega
    have hkz : (k : Int) + Z ≤ n := by omega
    have O1 := ow_empty' (lo := wr.heap.size) (Blk.new wr 5 #[] [] rfl) (Nat.le_refl _)
    have D1 := hB5.alloc hBw.size (.cells #[] 5)
    obtain ⟨Q, hQ⟩ : ∃ Q, Q = k + Z - (k + 4) := ⟨_, rfl⟩
    have HL5 : Hid (dt.length = k + Z - (k + 4)) := by show _ = _; rw [HL4.out]; omega
    have hq0 : k + Z - (k + 4) ≤ 1000 := by omega
    have zb := hBw.size
    have HQ := Lib.hid hQ
    clear hQ
    go_wp2_with (first
      | (go_at_call 67; ((with_reducible refine hG1.mono ?_); rintro e _ ⟨rfl, rfl⟩))
      | (go_at_call 67; ((with_reducible refine hG2.mono ?_); rintro e _ ⟨rfl, rfl⟩))
      | (at_builtin; refine wpList_append_bs rfl (.tmp 67) (.tmp 74) rfl 0 0 (k + Z - (k + 4)) (c - (k + 4)) (by rfl) (by rfl) rfl HL5.out O1 D1 (by omega) (by simp) ?_; intro A4 c4 w2 O4 b4 _; (have b4' : Below wr.heap.size wr w2 := ((Below.refl _ wr).alloc (Nat.le_refl _) _).trans b4); (have B2 := hBw.trans (b4'.mono zb)); (have X2 := (hX.below b4' (Nat.le_refl _)).alloc (.cells #[.int .i64 KD, .slice A4 (k + Z - (k + 4)) c4] 62)); (have O2 := (O4.wide zb).alloc (.cells #[.int .i64 KD, .slice A4 (k + Z - (k + 4)) c4] 62)); (have Hn := Lib.hid (cells2_of (Blk.new w2 62 #[.int .i64 KD, .slice A4 (k + Z - (k + 4)) c4] [.int .i64 KD, .slice A4 (k + Z - (k + 4)) c4] rfl))); (have hb4 : w.heap.size ≤ w2.heap.size := Nat.le_trans zb b4'.size))
      | (at_builtin; refine wpl_append (by rfl) _ _ 42 (by rfl) 62 (.agg #[.int .i64 0, .slice none 0 0]) 2 32 Tryd.underlying42 infoExt rfl (by omega) (.slice A1 T.length c1) T.length (rowX T) w.heap.size (by rfl) X2.1 ⟨w2.heap.size, 0, none⟩ 1 1 (by rfl) [.int .i64 KD, .slice A4 (k + Z - (k + 4)) c4] rfl Hn.out (by simp [Value.oneCell']) (by omega) (by omega) (by simp; omega) ?_; intro v3 w3 ho3 b3 hg3; obtain ⟨A5, c5, rfl, X5⟩ := xo_push (kd := KD) X2.2 X2.1 (show Ow _ _ A4 c4 dt by simpa using O2) (by rw [HL5.out]; exact ho3) hg3))
    have B3 : Below w.heap.size w w3 := (B2.alloc hb4 _).trans b3
    have HNl' := HNl.out
    exact ⟨⟨T ++ [((KD, dt), (A4, c4))], A5, c5, k + Z, f', by simp, X5, by simp, by omega, by have := HM.out; omega, by rw [flds_snoc]; exact HP.out, by simp; omega, B3⟩, by simp [intOf]; omega⟩
end Go.Proofs.YtachhbbofemfdaaDoor
namespace Go.Proofs.YtachhbbofemfdaaDoor
open Go.RowKit
set_option linter.unusedSimpArgs false
set_option linter.unusedVariables false
set_option maxRecDepth 100000
/-- a string's byte as a number -/
def sb (s : ByteArray) (k : Nat) : Int := ((s.data.toList.getD k 0).toNat : Int)
theorem sb_rng (s : ByteArray) (k : Nat) : 0 ≤ sb s k ∧ sb s k ≤ 255 := by
  unfold sb; have := (s.data.toList.getD k 0).toNat_lt; omega
theorem sb_get (s : ByteArray) (k : Nat) (h : k < s.size) : ((s[k]'h).toNat : Int) = sb s k := by
  unfold sb
  congr 2
  have h2 : k < s.data.toList.length := by simpa using h
  rw [List.getD_eq_getElem?_getD, List.getElem?_eq_getElem h2]
  rfl
/-- a string's bytes -/
def bl (s : ByteArray) : List Int := s.data.toList.map fun c => (c.toNat : Int)
theorem bl_len (s : ByteArray) : (bl s).length = s.size := by simp [bl]
theorem bl_at (s : ByteArray) (k : Nat) : atB (bl s) k = sb s k := by
  unfold atB bl sb
  rcases Nat.lt_or_ge k s.data.toList.length with h | h
  · simp [List.getD_eq_getElem?_getD, List.getElem?_eq_getElem h]
  · simp [List.getD_eq_getElem?_getD, List.getElem?_eq_none h]
theorem bl_byt (s : ByteArray) : Byt (bl s) := by
  intro x hx
  obtain ⟨c, _, rfl⟩ := List.mem_map.1 hx
  have := c.toNat_lt
  omega
/-- the string of bytes -/
def strOf (l : List Int) : ByteArray := ⟨(l.map fun n => UInt8.ofNat n.toNat).toArray⟩
theorem strOf_bl (s : ByteArray) : strOf (bl s) = s := by
  unfold strOf bl
  rw [List.map_map]
  have : (s.data.toList.map ((fun n : Int => UInt8.ofNat n.toNat) ∘ fun c : UInt8 => (c.toNat : Int))) = s.data.toList := by
    rw [List.map_congr_left (g := id)]
    · simp
    · intro c _; simp
  rw [this]
theorem bl_strOf {l : List Int} (h : Byt l) : bl (strOf l) = l := by
  unfold strOf bl
  simp only [List.toList_toArray, List.map_map]
  rw [List.map_congr_left (g := id)]
  · simp
  · intro x hx
    have := h x hx
    simp only [Function.comp, id, UInt8.toNat_ofNat']
    omega
theorem strOf_conv {w : World} {lo hi c n : Nat} {A : Option Addr} {l : List Int} (hn : l.length = n) (h : Bs w lo hi A l) (hA : 0 < n) :
    (convert 23 9 (.slice A n c)).run Tryd.prog w = .ok (.string (strOf l)) w := by
  subst hn
  obtain ⟨b, o, rfl, _, _, hc⟩ := h.at hA
  have hr := run_convert_bytes_back (P := Tryd.prog) w 23 9 5 ⟨b, o, none⟩ c (l.map fun n => UInt8.ofNat n.toNat) Tryd.underlying23 Tryd.underlying5 Tryd.underlying9 (fun j hj => by
    rw [List.length_map] at hj
    rw [ofAdd, hc j hj]
    have hb := h.byt.at j
    have e : atB l j = l[j] := by simp [atB, List.getD_eq_getElem?_getD, List.getElem?_eq_getElem hj]
    rw [e] at hb ⊢
    simp only [List.getElem_map]
    congr 2
    simp only [UInt8.toNat_ofNat']
    omega)
  rw [List.length_map] at hr
  exact hr
/-- a string turned into bytes: new memory that reads as the string -/
theorem bytes_conv (s : ByteArray) (w : World) (hs : s.size ≤ 9223372036854775807) : ∃ c w', (convert 9 23 (.string s)).run Tryd.prog w = .ok (.slice (some ⟨w.heap.size, 0, none⟩) s.size c) w' ∧ Bs w' w.heap.size w'.heap.size (some ⟨w.heap.size, 0, none⟩) (bl s) ∧ s.size ≤ c ∧ c ≤ 9223372036854775807 ∧ Below w.heap.size w w' := by
  have hr := run_bytes_of_string (P := Tryd.prog) w 9 23 5 s Tryd.underlying9 Tryd.underlying23 Tryd.underlying5
  refine ⟨_, _, hr, ⟨bl_byt s, fun hp => ⟨w.heap.size, 0, rfl, Nat.le_refl _, by simp, fun k hk => ?_⟩⟩, grownCap_ge _ _ _ _, (by have := grownCap_le_maxLen w s.size 0 5 (by unfold maxLen; omega); unfold maxLen at this; omega), (Below.drew (Below.refl _ w)).alloc (by simp) _⟩
  rw [bl_len] at hk
  have h := heap_alloc_new w.drew (.cells (bytesRow s (grownCap w s.size 0 5)) 5 ((bytesRow s (grownCap w s.size 0 5)).size, (bytesRow s (grownCap w s.size 0 5)).size + 1))
  have hc := cell_of_row _ w.drew.heap.size k _ _ _ h
  rw [Nat.zero_add]
  refine Eq.trans hc ?_
  rw [bl_at]
  unfold bytesRow sb
  have hk2 : k < s.data.size := hk
  rw [Array.getElem?_append_left (by simpa using hk2)]
  simp [hk2, List.getD_eq_getElem?_getD]
  exact ⟨s.data[k], Array.getElem?_eq_getElem hk2, by rw [Array.getElem?_eq_getElem hk2]; rfl⟩
end Go.Proofs.YtachhbbofemfdaaDoor
namespace Go.Proofs.YtachhbbofemfdaaDoor
open Go.RowKit
set_option linter.unusedSimpArgs false
set_option linter.unusedVariables false
set_option maxRecDepth 100000
theorem strOf_conv' {w : World} {lo hi c n : Nat} {A : Option Addr} {l : List Int} (hn : l.length = n) (h : Bs w lo hi A l) :
    (convert 23 9 (.slice A n c)).run Tryd.prog w = .ok (.string (strOf l)) w := by
  by_cases h0 : 0 < n
  · exact strOf_conv hn h h0
  · obtain rfl : n = 0 := by omega
    obtain rfl : l = [] := List.eq_nil_of_length_eq_zero hn
    rcases A with _ | a
    · simp [convert, run_underlying Tryd.underlying23, run_underlying Tryd.underlying9, run_underlying Tryd.underlying5, strOf, loadCells, loadCellsFrom, Sem.run_bind]
      simp [Conv.bytesToString]
      rfl
    · exact run_convert_bytes_back (P := Tryd.prog) w 23 9 5 a c [] Tryd.underlying23 Tryd.underlying5 Tryd.underlying9 (fun j hj => absurd hj (by simp))
theorem strOf_inj {l m : List Int} (hl : Byt l) (hm : Byt m) : (strOf l = strOf m) ↔ l = m := ⟨fun h => by rw [← bl_strOf hl, ← bl_strOf hm, h], fun h => by rw [h]⟩
set_option maxHeartbeats 1000000 in
theorem bequal_any (A B : Option Addr) (n m c d lo hi lo' hi' : Nat) (l l' : List Int) (w : World) (hn : l.length = n) (hm : l'.length = m) (hA : Bs w lo hi A l) (hB : Bs w lo' hi' B l') :
    Calls Tryd.prog 15 #[.slice A n c, .slice B m d] w fun e w' => e = .returned (.bool (eqB l l')) ∧ w = w' := by
  have k1 := strOf_conv' (c := c) hn hA
  have k2 := strOf_conv' (c := d) hm hB
  have hE : Hid (((strOf l).toList == (strOf l').toList) = eqB l l') := by
    show ((strOf l).toList == (strOf l').toList) = eqB l l'
    unfold eqB
    rw [Bool.eq_iff_iff, beq_iff_eq, decide_eq_true_eq, ByteArray.toList_eq, ByteArray.toList_eq, ← strOf_inj hA.byt hB.byt]
    exact ⟨fun h => WideShapes.bytes_inj h, fun h => by rw [h]⟩
  generalize strOf l = s at k1 hE
  generalize strOf l' = t at k2 hE
  go_enter Tryd.func15, Tryd.ntmps15
  go_wp2
  go_ret
  refine ⟨?_, rfl⟩
  rw [← hE.out]
  rfl
set_option maxHeartbeats 1000000 in
theorem bclone_any (A : Option Addr) (n c lo hi : Nat) (l : List Int) (w : World) (hn : l.length = n) (h : Bs w lo hi A l) (hh : hi ≤ w.heap.size) (hm : n ≤ 140737488355328) (hA : A = none → n = 0 ∧ c = 0) :
    Calls Tryd.prog 25 #[.slice A n c] w fun e w' => ∃ A' c', e = .returned (.slice A' n c') ∧ Ow w' w.heap.size A' c' l ∧ w.heap.size ≤ w'.heap.size ∧ Below w.heap.size w w' := by
  subst hn
  rcases A with _ | a
  · obtain ⟨h0, rfl⟩ := hA rfl
    obtain rfl : l = [] := List.eq_nil_of_length_eq_zero h0
    have hnil := fun (W : World) => Go.Lib.run_eql_slice_nil (P := Tryd.prog) W 23 5 none 0 0 0 0 Tryd.underlying23
    go_enter Tryd.func25, Tryd.ntmps25
    go_wp2
    go_ret
    exact ⟨none, 0, rfl, ⟨Byt.nil, World.ownsRow_nil _ _ _ _⟩, Nat.le_refl _, Below.refl _ _⟩
  · have hO1 := Ow.lit w [] #[] rfl Byt.nil (by simp)
    have hB1 := h.alloc hh (.cells #[] 5)
    have hnil := fun (W : World) => Go.Lib.run_eql_slice_nil (P := Tryd.prog) W 23 5 (some a) l.length c 0 0 Tryd.underlying23
    go_enter Tryd.func25, Tryd.ntmps25
    go_wp2_with (at_builtin; refine wpList_append_bs rfl (.tmp 5) (.tmp 6) rfl 0 0 l.length c (by rfl) (by rfl) rfl rfl hO1 hB1 (by omega) (by simp) ?_; intro A1 c1 w1 hO hb1 _)
    have hb2 : Below w.heap.size w w1 := Below.trans ((Below.refl _ w).alloc (Nat.le_refl _) _) hb1
    go_ret
    exact ⟨A1, c1, by simp, by simpa using hO, hb2.size, hb2⟩
end Go.Proofs.YtachhbbofemfdaaDoor
namespace Go.Proofs.YtachhbbofemfdaaDoor
open Go.RowKit
set_option linter.unusedSimpArgs false
set_option linter.unusedVariables false
set_option maxRecDepth 100000
section
variable {P : Program} {ops : Array Oper} {Q : Exit → Act → World → Prop} {md : Region.Mode} {S : World → Prop}
/-- in every world that meets S the operation yields v, and the world behind it meets S -/
def YS (P : Program) (S : World → Prop) (o : Oper) (v : Value) (a : Act) : Prop :=
  ∀ w, S w → Oper.wp P o a w (fun a' w' => a' = a.put o.dst v ∧ S w') (fun _ _ _ => False)
def YG (P : Program) (ops : Array Oper) (S : World → Prop) (o : Oper) (v : Value) (a : Act) : Prop :=
  (Region.wanted o (yielded ops a.tmps) = true ∧ YS P S o v a) ∨ (Region.wanted o (yielded ops a.tmps) = false ∧ v = undef)
theorem put_far {a : Act} {d : Option Tmp} {u v x : Value} {e : Option Tmp} (h : ∀ t, e = some t → d ≠ some t) (hu : a.put d u = a.put d v) : (a.put e x).put d u = (a.put e x).put d v := by
  have h1 : ∀ z : Value, (a.put e x).put d z = (a.put d z).put e x := fun z => Act.put_comm a x z h
  rw [h1, h1, hu]
theorem put_near {a : Act} {d : Option Tmp} {u v x : Value} {e : Option Tmp} (h : ∀ t, e = some t → d ≠ some t) (hu : (a.put e x).put d u = (a.put e x).put d v) : a.put d u = a.put d v := by
  cases d with
  | none => rfl
  | some d =>
    cases e with
    | none => exact hu
    | some e =>
      have hne : e ≠ d := fun he => h e rfl (by rw [he])
      have hu' := hu
      simp only [Act.put, Act.mk.injEq] at hu ⊢
      refine ⟨?_, hu.2⟩
      have h1 := hu.1
      apply Array.ext (by simp)
      intro i hi1 hi2
      have hi3 : i < a.tmps.size := by simpa using hi1
      have h2 := congrArg (fun t => t[i]?) h1
      by_cases hid : i = d
      · subst hid
        simp [hi3] at h2
        simp [h2]
      · rw [Array.getElem_setIfInBounds_ne hi3 (Ne.symm hid), Array.getElem_setIfInBounds_ne hi3 (Ne.symm hid)]
theorem YS.move {o : Oper} {v x : Value} {a : Act} {e : Option Tmp} (hs : ∀ cs b, o.op ≠ .select cs b) (hl : ∀ d, e = some d → d ∉ o.looksAt ops) (hd : ∀ d, e = some d → o.dst ≠ some d) : YS P S o v (a.put e x) ↔ YS P S o v a := by
  have he := execOp_put (ops := ops) o hs a e x hl
  unfold YS Oper.wp
  refine forall_congr' fun w => imp_congr_right fun _ => ?_
  rw [he]
  cases (execOp a.eval o).run P w with
  | ok n w' =>
    cases n <;> simp only [Oper.upon]
    case value u => exact and_congr_left fun _ => ⟨put_near hd, put_far hd⟩
    case skip => exact and_congr_left fun _ => ⟨put_near hd, put_far hd⟩
    case defer d =>
      refine and_congr_left fun _ => ⟨fun h => ?_, fun h => ?_⟩
      · exfalso
        have h2 := congrArg Act.defers h
        cases hq : o.dst <;> cases e <;> simp [Act.put, hq] at h2
      · exfalso
        have h2 := congrArg Act.defers h
        cases hq : o.dst <;> simp [Act.put, hq] at h2
    case enter f args =>
      have key : ∀ (b : Act) (r : Ending) (w'' : World), (match r with | .returned u => (b.put o.dst u = b.put o.dst v ∧ S w'') | .panicked c => False | .outgrown => False) ↔ (match r with | .returned u => (b.put o.dst u = b.put o.dst v ∧ S w'') | .panicked c => False | .outgrown => False) := fun _ _ _ => Iff.rfl
      constructor
      · intro h
        refine Calls.mono h fun r w'' hr => ?_
        cases r with
        | returned u => exact ⟨put_near hd hr.1, hr.2⟩
        | panicked c => exact hr
        | outgrown => exact hr
      · intro h
        refine Calls.mono h fun r w'' hr => ?_
        cases r with
        | returned u => exact ⟨put_far hd hr.1, hr.2⟩
        | panicked c => exact hr
        | outgrown => exact hr
    case row row args =>
      constructor
      · intro h; exact Rows.mono h fun u w'' hr => ⟨put_near hd hr.1, hr.2⟩
      · intro h; exact Rows.mono h fun u w'' hr => ⟨put_far hd hr.1, hr.2⟩
    all_goals exact Iff.rfl
  | halt x w' => cases x <;> simp only [Oper.upon]
theorem YG.move {o : Oper} {v x : Value} {a : Act} {e : Option Tmp} (hs : ∀ cs b, o.op ≠ .select cs b) (hl : ∀ d, e = some d → d ∉ o.looksAt ops) (hd : ∀ d, e = some d → o.dst ≠ some d) : YG P ops S o v (a.put e x) ↔ YG P ops S o v a := by
  unfold YG
  rw [wanted_put o a e x hl, YS.move (ops := ops) hs hl hd]
/-- whatever order is picked: every operation yields its one value -/
def wpD (P : Program) (md : Region.Mode) (ops : Array Oper) (Q : Exit → Act → World → Prop) (S : World → Prop) : Nat → Array Bool → Act → Prop
  | 0, listed, a => Region.ready md ops listed = [] ∧ ∀ w, S w → Q .normal a w
  | fuel + 1, listed, a => (Region.ready md ops listed = [] → ∀ w, S w → Q .normal a w) ∧
    ∀ i ∈ Region.ready md ops listed, ∃ o v, ops[i]? = some o ∧ YG P ops S o v a ∧ wpD P md ops Q S fuel (listed.setIfInBounds i true) (a.put o.dst v)
theorem wpD_sound : ∀ (fuel : Nat) (listed : Array Bool) (a : Act), wpD P md ops Q S fuel listed a → ∀ w, S w → wpAny P md ops Q fuel listed a w
  | 0, _, _, h => fun w hw => ⟨h.1, h.2 w hw⟩
  | fuel + 1, listed, a, h => fun w hw => ⟨fun hr => h.1 hr w hw, fun i hi => by
    obtain ⟨o, v, ho, hy, hd⟩ := h.2 i hi
    have ih := wpD_sound fuel _ _ hd
    unfold wpOp
    rw [ho]
    show if Region.wanted o (yielded ops a.tmps) = true then _ else _
    rcases hy with ⟨h1, h2⟩ | ⟨h1, rfl⟩
    · rw [if_pos h1]
      refine .inl ?_
      have h3 := h2 w hw
      unfold Oper.wp at h3 ⊢
      generalize (execOp a.eval o).run P w = r at h3 ⊢
      cases r with
      | ok n w' =>
        cases n <;> simp only [Oper.upon] at h3 ⊢
        case value u => rw [h3.1]; exact ih w' h3.2
        case skip => rw [h3.1]; exact ih w' h3.2
        case defer d => rw [h3.1]; exact ih w' h3.2
        case enter f args =>
          refine Calls.mono h3 fun r w'' hr => ?_
          cases r with
          | returned u => have hr : a.put o.dst u = a.put o.dst v ∧ S w'' := hr; show wpAny P md ops Q fuel _ (a.put o.dst u) w''; rw [hr.1]; exact ih w'' hr.2
          | panicked c => exact hr.elim
          | outgrown => have hr : LetsOut (fun (_ : Exit) (_ : Act) (_ : World) => False) := hr; obtain ⟨_, _, h⟩ := hr; exact h.elim
        case row row args => exact Rows.mono h3 fun u w'' hr => by rw [hr.1]; exact ih w'' hr.2
      | halt x w' => cases x <;> simp only [Oper.upon] at h3 ⊢
    · rw [if_neg (by rw [h1]; simp)]
      exact ih w hw⟩
theorem wpD_first {i : Nat} {oi : Oper} {v : Value} (hi : ops[i]? = some oi) (hsel : ∀ (j : Nat) (o : Oper) cs b, ops[j]? = some o → o.op ≠ .select cs b) :
    ∀ (fuel : Nat) (listed : Array Bool) (a : Act),
      (∀ j oj, ops[j]? = some oj → j ≠ i → listed.getD j true = false → (∀ e ∈ oj.after, Region.binds md e = true → e.on ≠ i) → oi.apart ops oj = true) →
      i ∈ Region.ready md ops listed → YG P ops S oi v a →
      wpD P md ops Q S fuel (listed.setIfInBounds i true) (a.put oi.dst v) → wpD P md ops Q S (fuel + 1) listed a := by
  intro fuel
  induction fuel with
  | zero =>
    intro listed a _ hr hy H
    refine ⟨fun h => (by rw [h] at hr; cases hr), fun j hj => ?_⟩
    by_cases hji : j = i
    · subst hji; exact ⟨oi, v, hi, hy, H⟩
    · have := ready_mono hj hji
      rw [H.1] at this
      cases this
  | succ fuel ih =>
    intro listed a hfree hr hy H
    refine ⟨fun h => (by rw [h] at hr; cases hr), fun j hj => ?_⟩
    by_cases hji : j = i
    · subst hji; exact ⟨oi, v, hi, hy, H⟩
    · obtain ⟨oj, u, hoj, hyj, hD⟩ := H.2 j (ready_mono hj hji)
      obtain ⟨hjun, oj', hoj', hall⟩ := mem_ready.1 hj
      obtain rfl : oj = oj' := Option.some.inj (hoj.symm.trans hoj')
      have hnot : ∀ e ∈ oj.after, Region.binds md e = true → e.on ≠ i := fun e he hb heq => by
        have h1 := hall e he hb
        have h0 := (mem_ready.1 hr).1
        rw [heq] at h1
        rcases Nat.lt_or_ge i listed.size with h' | h'
        · simp [h'] at h0 h1; rw [h0] at h1; cases h1
        · simp [Array.getElem?_eq_none h'] at h1
      obtain ⟨a1, a2, a3⟩ := Oper.apart_spec (hfree j oj hoj hji hjun hnot)
      have b2 : ∀ d, oj.dst = some d → oi.dst ≠ some d := fun d hd he => a2 d he hd
      refine ⟨oj, u, hoj, (YG.move (fun cs b => hsel j oj cs b hoj) a1 a2).1 hyj, ?_⟩
      have hfree' : ∀ k ok, ops[k]? = some ok → k ≠ i → (listed.setIfInBounds j true).getD k true = false →
          (∀ e ∈ ok.after, Region.binds md e = true → e.on ≠ i) → oi.apart ops ok = true := fun k ok hk hki hun hno => by
        refine hfree k ok hk hki ?_ hno
        by_cases hjk : j = k
        · subst hjk; exact hjun
        · rw [getD_set_ne true hjk] at hun; exact hun
      refine ih (listed.setIfInBounds j true) (a.put oj.dst u) hfree' (ready_mono hr (Ne.symm hji)) ((YG.move (fun cs b => hsel i oi cs b hi) a3 b2).2 hy) ?_
      rw [Array.setIfInBounds_comm _ _ hji, ← Act.put_comm a v u a2]
      exact hD
/-- number i is taken: it may come up, and those that do not wait for it are apart from it -/
theorem wpD_take {i : Nat} {oi : Oper} {v : Value} {fuel : Nat} {l : List Bool} {a : Act} (hi : ops[i]? = some oi)
    (hs : Region.noSelect ops = true) (hf : Region.free md ops l.toArray i = true) (hr : (Region.ready md ops l.toArray).contains i = true)
    (hw : Region.wanted oi (yielded ops a.tmps) = true) (hy : YS P S oi v a)
    (h : wpD P md ops Q S fuel (l.set i true).toArray (a.put oi.dst v)) : wpD P md ops Q S (fuel + 1) l.toArray a :=
  wpD_first hi (Region.noSelect_spec hs) fuel l.toArray a (Region.free_spec hi hf) (by simpa using hr) (.inl ⟨hw, hy⟩) (by rw [List.setIfInBounds_toArray]; exact h)
/-- number i is not wanted -/
theorem wpD_skip {i : Nat} {oi : Oper} {fuel : Nat} {l : List Bool} {a : Act} (hi : ops[i]? = some oi)
    (hs : Region.noSelect ops = true) (hf : Region.free md ops l.toArray i = true) (hr : (Region.ready md ops l.toArray).contains i = true)
    (hw : Region.wanted oi (yielded ops a.tmps) = false)
    (h : wpD P md ops Q S fuel (l.set i true).toArray (a.put oi.dst undef)) : wpD P md ops Q S (fuel + 1) l.toArray a :=
  wpD_first hi (Region.noSelect_spec hs) fuel l.toArray a (Region.free_spec hi hf) (by simpa using hr) (.inr ⟨hw, rfl⟩) (by rw [List.setIfInBounds_toArray]; exact h)
theorem wpD_done {listed : Array Bool} {a : Act} (hr : Region.ready md ops listed = []) (h : ∀ w, S w → Q .normal a w) :
    ∀ fuel, wpD P md ops Q S fuel listed a
  | 0 => ⟨hr, h⟩
  | _ + 1 => ⟨fun _ => h, by rw [hr]; simp⟩
/-- the beginning -/
theorem wp_region_det {id : Nat} {a : Act} {w : World} (S : World → Prop) (n : Nat) (hm : P.follows .mixedOrders = true) (hn : ops.size = n) (hS : S w.drew)
    (h : wpD P .any ops Q S n (List.replicate n false).toArray a) : (Code.region id ops true).wp P Q a w := by
  refine wp_region_any hm (wpD_sound _ _ _ ?_ _ hS)
  rw [hn, show Array.replicate n false = (List.replicate n false).toArray by simp]
  exact h
/-- an operation that leaves the world as it is -/
theorem YS.of_value {o : Oper} {v : Value} {a : Act} (h : ∀ w, S w → (execOp a.eval o).run P w = .ok (.value v) w) : YS P S o v a := fun w hw => by
  unfold Oper.wp
  rw [h w hw]
  exact ⟨rfl, hw⟩
/-- the same region under a condition that is held, step by step (for a region of few operations that stores or appends) -/
theorem wp_region_heldL {id : Nat} {a : Act} {w : World} (S : World → Prop) (n : Nat) (hm : P.follows .mixedOrders = true) (hn : ops.size = n) (hS : S w.drew)
    (h : S w.drew → wpAnyH P .any ops Q S n (List.replicate n false).toArray a w.drew) : (Code.region id ops true).wp P Q a w := by
  refine wp_region_held_drew hm hS fun h0 => ?_
  rw [hn, show Array.replicate n false = (List.replicate n false).toArray by simp]
  exact h h0
theorem wpH_take {i : Nat} {oi : Oper} {v : Value} {fuel : Nat} {l : List Bool} {a : Act} {w : World} (hi : ops[i]? = some oi)
    (hs : Region.noSelect ops = true) (hf : Region.free md ops l.toArray i = true) (hr : (Region.ready md ops l.toArray).contains i = true)
    (hQ : ∀ c a w, Q (.panic c) (a.put oi.dst v) w → Q (.panic c) a w) (hy : YieldsIf P ops S oi v a) (hS : S w)
    (h : wpAnyH P md ops Q S fuel (l.set i true).toArray (a.put oi.dst v) w) : wpAnyH P md ops Q S (fuel + 1) l.toArray a w :=
  wpAnyH_take hi hs hf hr hQ hy hS (by rw [List.setIfInBounds_toArray]; exact h)
theorem wpH_one {i : Nat} {oi : Oper} {fuel : Nat} {l : List Bool} {a : Act} {w : World} (hi : ops[i]? = some oi) (hr : Region.ready md ops l.toArray = [i]) (hw : Region.wanted oi (yielded ops a.tmps) = true)
    (h : Oper.wp P oi a w (fun a' w' => S w' ∧ wpAnyH P md ops Q S fuel (l.set i true).toArray a' w') Q) : wpAnyH P md ops Q S (fuel + 1) l.toArray a w := by
  refine wpAnyH_all hr (by simp) fun j hj => ?_
  obtain rfl : j = i := by simpa using hj
  unfold wpOp
  rw [hi]
  show if Region.wanted oi (yielded ops a.tmps) = true then _ else _
  rw [if_pos hw, List.setIfInBounds_toArray]
  exact .inl h
theorem wpH_done {listed : Array Bool} {a : Act} {w : World} (hr : Region.ready md ops listed = []) (h : Q .normal a w) : ∀ fuel, wpAnyH P md ops Q S fuel listed a w := wpAnyH_done hr h
end
end Go.Proofs.YtachhbbofemfdaaDoor
namespace Go.Proofs.YtachhbbofemfdaaDoor
open Go.RowKit
set_option linter.unusedSimpArgs false
set_option linter.unusedVariables false
set_option maxRecDepth 100000
set_option maxHeartbeats 1000000 in
theorem auth_any (id tag : Int) (w : World) (h0 : 0 ≤ id) (h1 : id ≤ 4294967295) (h2 : 0 ≤ tag) (h3 : tag ≤ 18446744073709551615) :
    Calls Tryd.prog 73 #[.int .u32 id, .int .u64 tag] w fun e w' => ∃ A' c', e = .returned (.slice A' 12 c') ∧ Ow w' w.heap.size A' c' (bytesB 4 id ++ bytesB 8 tag) ∧ Below w.heap.size w w' := by
  have hE := append_ok none 0 0 0 0 [] id 4 w rfl Bs.nil (Nat.zero_le _) (by omega) (by omega) (by omega) (by omega) (by have := (show (256 : Int) ^ 4 = 4294967296 from by decide); omega)
  go_enter Tryd.func73, Tryd.ntmps73
  go_wp2_with fail
  refine hE.mono ?_
  rintro e w1 ⟨rfl, O1, z1, b1⟩
  have O1' : Ow w1 w.heap.size (some ⟨w.heap.size, 0, none⟩) 4 (bytesB 4 id) := by simpa using O1
  clear hE O1 z1
  have hE := append_ok (some ⟨w.heap.size, 0, none⟩) 4 4 _ _ (bytesB 4 id) tag 8 w1 (bytesB_length _ _) O1'.bs (Nat.le_refl _) (by omega) (by omega) (by omega) (by omega) (by have := (show (256 : Int) ^ 8 = 18446744073709551616 from by decide); omega)
  go_wp2_with fail
  refine hE.mono ?_
  rintro e w2 ⟨rfl, O2, z2, b2⟩
  go_wp2
  go_ret
  exact ⟨_, _, rfl, O2.wide b1.size, b1.trans (b2.mono b1.size)⟩
set_option maxHeartbeats 1000000 in
theorem split_12 (A : Option Addr) (c lo hi : Nat) (l : List Int) (w : World) (hn : l.length = 12) (h : Bs w lo hi A l) (hm : 12 ≤ c) (hc : c ≤ 9223372036854775807) :
    Calls Tryd.prog 63 #[.slice A 12 c] w fun e w' => e = .returned (.tuple #[.int .u32 (numB (l.take 4)), .int .u64 (numB ((l.drop 4).take 8)), .int .i64 0]) ∧ w = w' := by
  have hE := get_any A 12 c lo hi l 0 4 w hn h hm hc (by omega)
  have hE2 := get_any A 12 c lo hi l 4 8 w hn h hm hc (by omega)
  unfold getR at hE hE2
  rw [getE_0 (by omega) (by omega)] at hE hE2
  have e1 : z0 0 (getV l 0 4) = numB (l.take 4) := by unfold getV z0; simp
  have e2 : z0 0 (getV l 4 8) = numB ((l.drop 4).take 8) := by unfold getV z0; simp
  rw [e1] at hE
  rw [e2] at hE2
  have hr := (numB_range (l.take 4)).1
  have hl := numB_le_pow' (h.byt.take 4)
  rw [List.length_take, hn] at hl
  have hl2 : numB (l.take 4) ≤ 4294967295 := by have : (256 : Int) ^ (min 4 12) = 4294967296 := by decide
                                                omega
  clear hl e1 e2
  generalize numB (l.take 4) = X at hE hr hl2
  generalize numB ((l.drop 4).take 8) = Y at hE2
  go_enter Tryd.func63, Tryd.ntmps63
  go_wp2_with (first
    | (go_at_call 91; ((with_reducible refine hE.mono ?_); rintro e _ ⟨rfl, rfl⟩))
    | (go_at_call 91; ((with_reducible refine hE2.mono ?_); rintro e _ ⟨rfl, rfl⟩)))
  go_ret3
  exact ⟨rfl, rfl⟩
set_option maxHeartbeats 4000000 in
theorem same_eq (A B : Option Addr) (n c d : Nat) (L : Flds) (w : World) (hn : L.length = n) (hA : Xs w w.heap.size A L) (hB : Xs w w.heap.size B L) (hc : n ≤ c) (hc2 : c ≤ 9223372036854775807) (hd : n ≤ d) (hd2 : d ≤ 9223372036854775807) :
    Calls Tryd.prog 87 #[.slice A n c, .slice B n d] w fun e w' => e = .returned (.bool true) ∧ Below w.heap.size w w' := by
  go_enter Tryd.func87, Tryd.ntmps87
  go_wp2
  go_loopw [5] (fun i wr => ∃ k : Nat, k ≤ n ∧ i = .int .i64 k ∧ Below w.heap.size w wr) (fun i _ => n - (intOf i).toNat)
  case atStart => exact ⟨0, by omega, rfl, Below.refl _ _⟩
  case round =>
    obtain ⟨k, hk, rfl, hBw⟩ := hrel
    by_cases hlt : k < n
    · obtain ⟨b, o, rfl, hbw, hx⟩ := (hA.below hBw (Nat.le_refl _)) (by omega)
      obtain ⟨b', o', rfl, hbw', hx'⟩ := (hB.below hBw (Nat.le_refl _)) (by omega)
      obtain ⟨Ak, ck, p0, p1, hBk, _⟩ := hx k (by omega)
      obtain ⟨Bk, dk, q0, q1, hBk', _⟩ := hx' k (by omega)
      have v1 := strOf_conv' (c := ck) rfl hBk.drew
      have v2 := strOf_conv' (c := dk) rfl hBk'.drew
      have hi0 : (0 : Int) ≤ k := by omega
      have hi1 : (k : Int) < n := by omega
      generalize strOf (dtL L k) = s at v1 v2
      generalize (dtL L k).length = D at p1 q1 v1 v2
      generalize kdL L k = K at p0 q0
      clear hx hx' hA hB hBk hBk'
      go_wp2_with fail
      refine wp_region_det (fun w' => w' = wr.drew) 26 (by kernel_rfl) rfl (by rfl) ?_
      simp only [List.replicate]
      (refine wpD_take (i := 0) (v := _) (by simp only [List.getElem?_toArray, List.getElem?_cons_succ, List.getElem?_cons_zero]; rfl) (by kernel_rfl) (by kernel_rfl) (by kernel_rfl) (by rfl) (YS.of_value (by intro w' hSw; (try dsimp only at hSw); go_simp; first | done | with_reducible rfl)) ?_; (try simp only [Act.put, List.setIfInBounds_toArray, List.set_cons_zero, List.set_cons_succ]))
      (refine wpD_take (i := 1) (v := _) (by simp only [List.getElem?_toArray, List.getElem?_cons_succ, List.getElem?_cons_zero]; rfl) (by kernel_rfl) (by kernel_rfl) (by kernel_rfl) (by rfl) (YS.of_value (by intro w' hSw; (try dsimp only at hSw); go_simp; first | done | with_reducible rfl)) ?_; (try simp only [Act.put, List.setIfInBounds_toArray, List.set_cons_zero, List.set_cons_succ]))
      (refine wpD_take (i := 2) (v := _) (by simp only [List.getElem?_toArray, List.getElem?_cons_succ, List.getElem?_cons_zero]; rfl) (by kernel_rfl) (by kernel_rfl) (by kernel_rfl) (by rfl) (YS.of_value (by intro w' hSw; (try dsimp only at hSw); go_simp; first | done | with_reducible rfl)) ?_; (try simp only [Act.put, List.setIfInBounds_toArray, List.set_cons_zero, List.set_cons_succ]))
      (refine wpD_take (i := 3) (v := _) (by simp only [List.getElem?_toArray, List.getElem?_cons_succ, List.getElem?_cons_zero]; rfl) (by kernel_rfl) (by kernel_rfl) (by kernel_rfl) (by rfl) (YS.of_value (by intro w' hSw; (try dsimp only at hSw); go_simp; first | done | with_reducible rfl)) ?_; (try simp only [Act.put, List.setIfInBounds_toArray, List.set_cons_zero, List.set_cons_succ]))
      (refine wpD_take (i := 4) (v := _) (by simp only [List.getElem?_toArray, List.getElem?_cons_succ, List.getElem?_cons_zero]; rfl) (by kernel_rfl) (by kernel_rfl) (by kernel_rfl) (by rfl) (YS.of_value (by intro w' hSw; (try dsimp only at hSw); go_simp; first | done | with_reducible rfl)) ?_; (try simp only [Act.put, List.setIfInBounds_toArray, List.set_cons_zero, List.set_cons_succ]))
      (refine wpD_take (i := 5) (v := _) (by simp only [List.getElem?_toArray, List.getElem?_cons_succ, List.getElem?_cons_zero]; rfl) (by kernel_rfl) (by kernel_rfl) (by kernel_rfl) (by rfl) (YS.of_value (by intro w' hSw; (try dsimp only at hSw); go_simp; first | done | with_reducible rfl)) ?_; (try simp only [Act.put, List.setIfInBounds_toArray, List.set_cons_zero, List.set_cons_succ]))
      (refine wpD_take (i := 6) (v := _) (by simp only [List.getElem?_toArray, List.getElem?_cons_succ, List.getElem?_cons_zero]; rfl) (by kernel_rfl) (by kernel_rfl) (by kernel_rfl) (by rfl) (YS.of_value (by intro w' hSw; (try dsimp only at hSw); go_simp; first | done | with_reducible rfl)) ?_; (try simp only [Act.put, List.setIfInBounds_toArray, List.set_cons_zero, List.set_cons_succ]))
      (refine wpD_take (i := 7) (v := _) (by simp only [List.getElem?_toArray, List.getElem?_cons_succ, List.getElem?_cons_zero]; rfl) (by kernel_rfl) (by kernel_rfl) (by kernel_rfl) (by rfl) (YS.of_value (by intro w' hSw; (try dsimp only at hSw); go_simp; first | done | with_reducible rfl)) ?_; (try simp only [Act.put, List.setIfInBounds_toArray, List.set_cons_zero, List.set_cons_succ]))
      (refine wpD_take (i := 8) (v := _) (by simp only [List.getElem?_toArray, List.getElem?_cons_succ, List.getElem?_cons_zero]; rfl) (by kernel_rfl) (by kernel_rfl) (by kernel_rfl) (by rfl) (YS.of_value (by intro w' hSw; (try dsimp only at hSw); go_simp; first | done | with_reducible rfl)) ?_; (try simp only [Act.put, List.setIfInBounds_toArray, List.set_cons_zero, List.set_cons_succ]))
      (refine wpD_take (i := 9) (v := _) (by simp only [List.getElem?_toArray, List.getElem?_cons_succ, List.getElem?_cons_zero]; rfl) (by kernel_rfl) (by kernel_rfl) (by kernel_rfl) (by rfl) (YS.of_value (by intro w' hSw; (try dsimp only at hSw); go_simp; first | done | with_reducible rfl)) ?_; (try simp only [Act.put, List.setIfInBounds_toArray, List.set_cons_zero, List.set_cons_succ]))
      (refine wpD_take (i := 10) (v := _) (by simp only [List.getElem?_toArray, List.getElem?_cons_succ, List.getElem?_cons_zero]; rfl) (by kernel_rfl) (by kernel_rfl) (by kernel_rfl) (by rfl) (YS.of_value (by intro w' hSw; (try dsimp only at hSw); go_simp; first | done | with_reducible rfl)) ?_; (try simp only [Act.put, List.setIfInBounds_toArray, List.set_cons_zero, List.set_cons_succ]))
      (refine wpD_take (i := 11) (v := _) (by simp only [List.getElem?_toArray, List.getElem?_cons_succ, List.getElem?_cons_zero]; rfl) (by kernel_rfl) (by kernel_rfl) (by kernel_rfl) (by rfl) (YS.of_value (by intro w' hSw; (try dsimp only at hSw); go_simp; first | done | with_reducible rfl)) ?_; (try simp only [Act.put, List.setIfInBounds_toArray, List.set_cons_zero, List.set_cons_succ]))
      (refine wpD_take (i := 12) (v := _) (by simp only [List.getElem?_toArray, List.getElem?_cons_succ, List.getElem?_cons_zero]; rfl) (by kernel_rfl) (by kernel_rfl) (by kernel_rfl) (by rfl) (YS.of_value (by intro w' hSw; (try dsimp only at hSw); go_simp; first | done | with_reducible rfl)) ?_; (try simp only [Act.put, List.setIfInBounds_toArray, List.set_cons_zero, List.set_cons_succ]))
      (refine wpD_take (i := 13) (v := _) (by simp only [List.getElem?_toArray, List.getElem?_cons_succ, List.getElem?_cons_zero]; rfl) (by kernel_rfl) (by kernel_rfl) (by kernel_rfl) (by rfl) (YS.of_value (by intro w' hSw; (try dsimp only at hSw); go_simp; first | done | with_reducible rfl)) ?_; (try simp only [Act.put, List.setIfInBounds_toArray, List.set_cons_zero, List.set_cons_succ]))
      (refine wpD_take (i := 14) (v := _) (by simp only [List.getElem?_toArray, List.getElem?_cons_succ, List.getElem?_cons_zero]; rfl) (by kernel_rfl) (by kernel_rfl) (by kernel_rfl) (by rfl) (YS.of_value (by intro w' hSw; (try dsimp only at hSw); go_simp; first | done | with_reducible rfl)) ?_; (try simp only [Act.put, List.setIfInBounds_toArray, List.set_cons_zero, List.set_cons_succ]))
      (refine wpD_take (i := 15) (v := _) (by simp only [List.getElem?_toArray, List.getElem?_cons_succ, List.getElem?_cons_zero]; rfl) (by kernel_rfl) (by kernel_rfl) (by kernel_rfl) (by rfl) (YS.of_value (by intro w' hSw; (try dsimp only at hSw); go_simp; first | done | with_reducible rfl)) ?_; (try simp only [Act.put, List.setIfInBounds_toArray, List.set_cons_zero, List.set_cons_succ]))
      (refine wpD_take (i := 16) (v := _) (by simp only [List.getElem?_toArray, List.getElem?_cons_succ, List.getElem?_cons_zero]; rfl) (by kernel_rfl) (by kernel_rfl) (by kernel_rfl) (by rfl) (YS.of_value (by intro w' hSw; (try dsimp only at hSw); go_simp; first | done | with_reducible rfl)) ?_; (try simp only [Act.put, List.setIfInBounds_toArray, List.set_cons_zero, List.set_cons_succ]))
      (refine wpD_take (i := 17) (v := _) (by simp only [List.getElem?_toArray, List.getElem?_cons_succ, List.getElem?_cons_zero]; rfl) (by kernel_rfl) (by kernel_rfl) (by kernel_rfl) (by rfl) (YS.of_value (by intro w' hSw; (try dsimp only at hSw); go_simp; first | done | with_reducible rfl)) ?_; (try simp only [Act.put, List.setIfInBounds_toArray, List.set_cons_zero, List.set_cons_succ]))
      (refine wpD_take (i := 18) (v := _) (by simp only [List.getElem?_toArray, List.getElem?_cons_succ, List.getElem?_cons_zero]; rfl) (by kernel_rfl) (by kernel_rfl) (by kernel_rfl) (by rfl) (YS.of_value (by intro w' hSw; (try dsimp only at hSw); go_simp; first | done | with_reducible rfl)) ?_; (try simp only [Act.put, List.setIfInBounds_toArray, List.set_cons_zero, List.set_cons_succ]))
      (refine wpD_take (i := 19) (v := _) (by simp only [List.getElem?_toArray, List.getElem?_cons_succ, List.getElem?_cons_zero]; rfl) (by kernel_rfl) (by kernel_rfl) (by kernel_rfl) (by rfl) (YS.of_value (by intro w' hSw; (try dsimp only at hSw); go_simp; first | done | with_reducible rfl)) ?_; (try simp only [Act.put, List.setIfInBounds_toArray, List.set_cons_zero, List.set_cons_succ]))
      (refine wpD_take (i := 20) (v := _) (by simp only [List.getElem?_toArray, List.getElem?_cons_succ, List.getElem?_cons_zero]; rfl) (by kernel_rfl) (by kernel_rfl) (by kernel_rfl) (by rfl) (YS.of_value (by intro w' hSw; (try dsimp only at hSw); go_simp; first | done | with_reducible rfl)) ?_; (try simp only [Act.put, List.setIfInBounds_toArray, List.set_cons_zero, List.set_cons_succ]))
      (refine wpD_take (i := 21) (v := _) (by simp only [List.getElem?_toArray, List.getElem?_cons_succ, List.getElem?_cons_zero]; rfl) (by kernel_rfl) (by kernel_rfl) (by kernel_rfl) (by rfl) (YS.of_value (by intro w' hSw; (try dsimp only at hSw); go_simp; first | done | with_reducible rfl)) ?_; (try simp only [Act.put, List.setIfInBounds_toArray, List.set_cons_zero, List.set_cons_succ]))
      (refine wpD_take (i := 22) (v := _) (by simp only [List.getElem?_toArray, List.getElem?_cons_succ, List.getElem?_cons_zero]; rfl) (by kernel_rfl) (by kernel_rfl) (by kernel_rfl) (by rfl) (YS.of_value (by intro w' hSw; (try dsimp only at hSw); go_simp; first | done | with_reducible rfl)) ?_; (try simp only [Act.put, List.setIfInBounds_toArray, List.set_cons_zero, List.set_cons_succ]))
      (refine wpD_take (i := 23) (v := _) (by simp only [List.getElem?_toArray, List.getElem?_cons_succ, List.getElem?_cons_zero]; rfl) (by kernel_rfl) (by kernel_rfl) (by kernel_rfl) (by rfl) (YS.of_value (by intro w' hSw; (try dsimp only at hSw); go_simp; first | done | with_reducible rfl)) ?_; (try simp only [Act.put, List.setIfInBounds_toArray, List.set_cons_zero, List.set_cons_succ]))
      (refine wpD_take (i := 24) (v := _) (by simp only [List.getElem?_toArray, List.getElem?_cons_succ, List.getElem?_cons_zero]; rfl) (by kernel_rfl) (by kernel_rfl) (by kernel_rfl) (by rfl) (YS.of_value (by intro w' hSw; (try dsimp only at hSw); go_simp; first | done | with_reducible rfl)) ?_; (try simp only [Act.put, List.setIfInBounds_toArray, List.set_cons_zero, List.set_cons_succ]))
      (refine wpD_take (i := 25) (v := _) (by simp only [List.getElem?_toArray, List.getElem?_cons_succ, List.getElem?_cons_zero]; rfl) (by kernel_rfl) (by kernel_rfl) (by kernel_rfl) (by rfl) (YS.of_value (by intro w' hSw; (try dsimp only at hSw); go_simp; first | done | with_reducible rfl)) ?_; (try simp only [Act.put, List.setIfInBounds_toArray, List.set_cons_zero, List.set_cons_succ]))
      refine wpD_done (by kernel_rfl) ?_ _
      rintro _ rfl
      go_wp2_with fail
      exact ⟨⟨k + 1, by omega, by go_num, hBw.drew⟩, by simp [intOf]; omega⟩
    · obtain rfl : n = k := by omega
      go_wp2
      go_ret
      exact ⟨rfl, hBw⟩
def fewB (L : Flds) : Bool := (L.all fun t => decide (t.2.length ≤ 400)) && decide (L.length ≤ 24)
theorem fewB_no {L : Flds} {k : Nat} (hk : k < L.length) (h : 400 < (dtL L k).length) : fewB L = false := by
  unfold fewB
  have : (L.all fun t => decide (t.2.length ≤ 400)) = false := by
    rw [List.all_eq_false]
    exact ⟨_, kd_mem hk, by simp; omega⟩
  rw [this]; rfl
theorem fewB_len {L : Flds} (h : ∀ j, j < L.length → (dtL L j).length ≤ 400) : fewB L = decide (L.length ≤ 24) := by
  unfold fewB
  have : (L.all fun t => decide (t.2.length ≤ 400)) = true := by
    rw [List.all_eq_true]
    intro t ht
    obtain ⟨i, hi, rfl⟩ := List.mem_iff_getElem.1 ht
    have h2 := h i hi
    unfold dtL at h2
    rw [List.getD_eq_getElem?_getD, List.getElem?_eq_getElem hi] at h2
    simpa using h2
  rw [this]; rfl
theorem fewB_yes {L : Flds} (h : fewB L = true) : L.length ≤ 24 ∧ ∀ k, k < L.length → (dtL L k).length ≤ 400 := by
  unfold fewB at h
  simp only [Bool.and_eq_true, List.all_eq_true, decide_eq_true_eq] at h
  exact ⟨h.2, fun k hk => h.1 _ (kd_mem hk)⟩
end Go.Proofs.YtachhbbofemfdaaDoor
