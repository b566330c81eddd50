/- Extension fields: lists that the call made, and the contract of Parse, of the program and of the reference. The contract of Parse of the program. The contract of Parse of the reference. The library's bytes.Equal, bytes.Clone and bytes.Repeat at one byte and twelve. Contracts of Auth, Split, Same and few. A list of extension fields that came in, opened. What reply of TopExchange computes: the bytes of the header and of the field with the interval. The plain laws on timestamps: numbers alone, no program. -/
import Derived.Test.YtdnmjeapihjabaaTxZ10
import Derived.Test.YtdnmjeapihjabaaTxZ3
import Derived.Test.YtdnmjeapihjabaaTxZ7
import Derived.Lib.MakeNoZero
import Derived.Laws.CopyOwn
import Derived.Laws.Externs
import Derived.Deep.RegionLaw
import Derived.WalkSpells
import Derived.Test.YtdnmjeapihjabaaTxZ5
import Derived.Test.YtdnmjeapihjabaaTxZ6
import Derived.Test.YtdnmjeapihjabaaTxZ8
import Derived.Test.YtdnmjeapihjabaaTxZ2
import Derived.Test.YtdnmjeapihjabaaTxZ1
namespace Go.Proofs.Ytdnmjeapihjabaa
open Go.RowKit
set_option linter.unusedSimpArgs false
set_option linter.unusedVariables false
set_option maxRecDepth 100000
abbrev XT := (Int × List Int) × (Option Addr × Nat)
def rowX : List XT → List Value
  | [] => []
  | t :: r => .int .i64 t.1.1 :: .slice t.2.1 t.1.2.length t.2.2 :: rowX r
theorem rowX_len : ∀ T : List XT, (rowX T).length = T.length * 2
  | [] => rfl
  | t :: r => by simp only [rowX, List.length_cons, rowX_len r]; omega
theorem rowX_app : ∀ (T : List XT) (u : XT), rowX (T ++ [u]) = rowX T ++ [.int .i64 u.1.1, .slice u.2.1 u.1.2.length u.2.2]
  | [], u => rfl
  | t :: r, u => by simp only [List.cons_append, rowX, rowX_app r u]
theorem rowX_at : ∀ (T : List XT) (k : Nat) (h : k < T.length), (rowX T)[k * 2]? = some (.int .i64 (T[k]'h).1.1) ∧ (rowX T)[k * 2 + 1]? = some (.slice (T[k]'h).2.1 (T[k]'h).1.2.length (T[k]'h).2.2)
  | [], k, h => by simp at h
  | t :: r, 0, h => ⟨rfl, rfl⟩
  | t :: r, k + 1, h => by
    have := rowX_at r k (by simpa using h)
    have e : (k + 1) * 2 = k * 2 + 1 + 1 := by omega
    rw [e]
    exact this
/-- the call's own list of fields, each with its own bytes -/
def XOT (w : World) (lo : Nat) (A : Option Addr) (c : Nat) (T : List XT) : Prop := w.ownsRow lo 71 2 (.slice A T.length c) T.length (rowX T) ∧ ∀ t ∈ T, Ow w lo t.2.1 t.2.2 t.1.2
def flds (T : List XT) : Flds := T.map (·.1)
theorem flds_len (T : List XT) : (flds T).length = T.length := by simp [flds]
theorem flds_snoc (T : List XT) (u : XT) : flds (T ++ [u]) = flds T ++ [u.1] := by simp [flds]
def XO (w : World) (lo : Nat) (A : Option Addr) (c : Nat) (L : Flds) : Prop := ∃ T : List XT, flds T = L ∧ XOT w lo A c T
section
variable {w w' : World} {lo c : Nat} {A : Option Addr} {L : Flds} {T : List XT}
theorem XOT.nil (w : World) (lo : Nat) : XOT w lo none 0 [] := ⟨World.ownsRow_nil _ _ _ _, fun t ht => by cases ht⟩
theorem XO.nil (w : World) (lo : Nat) : XO w lo none 0 [] := ⟨[], rfl, XOT.nil w lo⟩
theorem own_nil' {E : TypeId} {size n : Nat} {xs : List Value} (h : w.ownsRow lo E size (.slice A n c) n xs) : A = none → n = 0 ∧ c = 0 := fun hA => by
  subst hA
  rcases h.2 with ⟨h1, _⟩ | ⟨g, cap, cur, h1, _⟩
  · injection h1 with _ h2 h3; exact ⟨h2, h3⟩
  · injection h1 with h2; cases h2
theorem XOT.cap (h : XOT w lo A c T) : T.length ≤ c ∧ c ≤ 9223372036854775807 ∧ (A = none → T.length = 0 ∧ c = 0) := by
  obtain ⟨h2, _⟩ := h
  refine ⟨?_, ?_, own_nil' h2⟩
  · rcases h2.2 with ⟨h3, h4⟩ | ⟨g, cap, cur, h3, _, _, h5, _⟩
    · injection h3 with _ h5 h6; omega
    · injection h3 with _ _ h6; omega
  · rcases h2.2 with ⟨h3, h4⟩ | ⟨g, cap, cur, h3, _, _, _, h5, _⟩
    · injection h3 with _ h5 h6; omega
    · injection h3 with _ _ h6; unfold maxLen at h5; omega
theorem XOT.keep (h : XOT w lo A c T) (hk : ∀ b, lo ≤ b → b < w.heap.size → w'.heap[b]? = w.heap[b]?) : XOT w' lo A c T :=
  ⟨own_kept h.1 fun g hg => hk g (h.1.lt g hg).1 (h.1.lt g hg).2, fun t ht => ⟨(h.2 t ht).1, own_kept (h.2 t ht).2 fun g hg => hk g ((h.2 t ht).2.lt g hg).1 ((h.2 t ht).2.lt g hg).2⟩⟩
theorem XOT.below {B : Nat} (h : XOT w lo A c T) (hb : Below B w w') (h1 : w.heap.size ≤ B) : XOT w' lo A c T := h.keep fun b _ h2 => hb.block b (by omega)
theorem XOT.alloc (h : XOT w lo A c T) (o : Obj) : XOT (w.alloc o) lo A c T := h.keep fun b _ h2 => heap_alloc_old w o h2
theorem XO.keep (h : XO w lo A c L) (hk : ∀ b, lo ≤ b → b < w.heap.size → w'.heap[b]? = w.heap[b]?) : XO w' lo A c L := by
  obtain ⟨T, h1, h2⟩ := h
  exact ⟨T, h1, h2.keep hk⟩
theorem XO.below {B : Nat} (h : XO w lo A c L) (hb : Below B w w') (h1 : w.heap.size ≤ B) : XO w' lo A c L := h.keep fun b _ h2 => hb.block b (by omega)
theorem XO.alloc (h : XO w lo A c L) (o : Obj) : XO (w.alloc o) lo A c L := h.keep fun b _ h2 => heap_alloc_old w o h2
theorem XO.drew (h : XO w lo A c L) : XO w.drew lo A c L := h
theorem XO.but {g : Nat} (h : XO w lo A c L) (hg : But g w w') (hlt : g < lo) : XO w' lo A c L := h.keep fun b h1 h2 => hg.block b h2 (by simp; omega)
theorem XO.cap (h : XO w lo A c L) : L.length ≤ c ∧ c ≤ 9223372036854775807 ∧ (A = none → L.length = 0 ∧ c = 0) := by
  obtain ⟨T, rfl, h2⟩ := h
  rw [flds_len]
  exact h2.cap
theorem XO.wide {lo' : Nat} (h : XO w lo A c L) (hl : lo' ≤ lo) : XO w lo' A c L := by
  obtain ⟨T, h1, h2, h3⟩ := h
  refine ⟨T, h1, ⟨h2.1, ?_⟩, fun t ht => (h3 t ht).wide hl⟩
  rcases h2.2 with h4 | ⟨g, cap, cur, e1, e2, e3⟩
  · exact .inl h4
  · exact .inr ⟨g, cap, cur, e1, by omega, e3⟩
theorem XO.byt (h : XO w lo A c L) : ∀ t ∈ L, Byt t.2 := by
  obtain ⟨T, rfl, _, h3⟩ := h
  intro t ht
  obtain ⟨u, hu, rfl⟩ := List.mem_map.1 ht
  exact (h3 u hu).1
/-- the list, read -/
theorem XO.xs (h : XO w lo A c L) : Xs w w.heap.size A L := by
  obtain ⟨T, rfl, h2, h3⟩ := h
  intro hp
  rw [flds_len] at hp
  obtain ⟨g, cap, e, h4, h5, _, _, hc⟩ := own_form h2 hp
  have hA : A = some ⟨g, 0, none⟩ := by injection e
  subst hA
  refine ⟨g, 0, rfl, h5, fun k hk => ?_⟩
  rw [flds_len] at hk
  obtain ⟨r0, r1⟩ := rowX_at T k hk
  have hO := h3 (T[k]) (List.getElem_mem hk)
  have e0 : kdL (flds T) k = (T[k]).1.1 := by unfold kdL flds; rw [List.getD_eq_getElem?_getD, List.getElem?_map, List.getElem?_eq_getElem hk]; rfl
  have e1 : dtL (flds T) k = (T[k]).1.2 := by unfold dtL flds; rw [List.getD_eq_getElem?_getD, List.getElem?_map, List.getElem?_eq_getElem hk]; rfl
  rw [e0, e1, Nat.zero_add]
  refine ⟨(T[k]).2.1, (T[k]).2.2, (hc _ (by omega)).trans r0, (hc _ (by omega)).trans r1, hO.bs.wide (Nat.zero_le _) (Nat.le_refl _), hO.cap_le, hO.cap_max, fun hn => ?_⟩
  rcases hO.form with ⟨_, hl, hc⟩ | ⟨g', hg', _⟩
  · exact ⟨by rw [hl]; rfl, hc⟩
  · rw [hn] at hg'; cases hg'
/-- two rows of other types do not share a block -/
theorem own_types {lo' n n' size size' : Nat} {E E' : TypeId} {v v' : Value} {xs xs' : List Value} (h : w.ownsRow lo E size v n xs) (h' : w.ownsRow lo' E' size' v' n' xs') (hne : E ≠ E') : ∀ g, v.ownBlock = some g → v'.ownBlock ≠ some g := fun g hg hg' => by
  rcases h.2 with ⟨e, _⟩ | ⟨b, cap, cur, e, _, hb, _⟩
  · rw [e] at hg; simp [Value.ownBlock] at hg
  · rcases h'.2 with ⟨e', _⟩ | ⟨b', cap', cur', e', _, hb', _⟩
    · rw [e'] at hg'; simp [Value.ownBlock] at hg'
    · rw [e] at hg; rw [e'] at hg'
      simp [Value.ownBlock] at hg hg'
      subst hg
      subst hg'
      rw [hb] at hb'
      injection hb' with hb'
      injection hb' with _ ht
      exact hne ht
/-- one field more -/
theorem xo_push {w1 : World} {v v' : Value} {A1 : Option Addr} {c1 : Nat} {kd : Int} {dt : List Int} (hT : ∀ t ∈ T, Ow w lo t.2.1 t.2.2 t.1.2) (hrow : w.ownsRow lo 71 2 v T.length (rowX T)) (hd : Ow w lo A1 c1 dt)
    (hr : w1.ownsRow lo 71 2 v' (T.length + 1) (rowX T ++ [.int .i64 kd, .slice A1 dt.length c1])) (hg : w.grownBy w1 v.ownBlock) : ∃ A' c', v' = .slice A' (T.length + 1) c' ∧ XOT w1 lo A' c' (T ++ [((kd, dt), (A1, c1))]) := by
  have key : ∀ {A : Option Addr} {c : Nat} {l : List Int}, Ow w lo A c l → Ow w1 lo A c l := fun {A c l} h => ⟨h.1, own_kept h.2 fun g hgg => hg.block g (h.2.lt g hgg).2 (fun e => own_types hrow h.2 (by decide) g e.symm hgg)⟩
  obtain ⟨g, cap, rfl, _⟩ := own_form hr (by omega)
  refine ⟨_, _, rfl, ?_, fun t ht => ?_⟩
  · rw [List.length_append, rowX_app]
    exact hr
  · rcases List.mem_append.1 ht with ht | ht
    · exact key (hT t ht)
    · rw [List.mem_singleton.1 ht]; exact key hd
end
theorem infoExt : (Try.prog.info? 71).map (fun i => (i.zero, i.size, i.bytes)) = some (some (.agg #[.int .i64 0, .slice none 0 0]), 2, 32) := by kernel_rfl
/-- the state of Parse's loop -/
def ParR (w0 : World) (PR : Flds × List Int × Int) (wr : World) (bv lv : Value) : Prop :=
  ∃ (T : List XT) (A : Option Addr) (c : Nat) (B : Option Addr) (n cb : Nat) (rest : List Int) (f : Nat), lv = .slice A T.length c ∧ XOT wr w0.heap.size A c T ∧ bv = .slice B n cb ∧ rest.length = n ∧ Bs wr 0 w0.heap.size B rest ∧ n ≤ cb ∧ cb ≤ 9223372036854775807 ∧ n ≤ f ∧ n ≤ 1000000 ∧ prs f (flds T) rest = PR ∧ T.length ≤ 16 ∧ Below w0.heap.size w0 wr
def lenV : Value → Nat
  | .slice _ n _ => n
  | _ => 0
theorem prs_end {f : Nat} {acc : Flds} {l : List Int} {PR : Flds × List Int × Int} (h : prs f acc l = PR) (h0 : l.length = 0) : PR = (acc, [], 0) := by
  rw [← h]
  cases f with
  | zero => rfl
  | succ f => rw [prs, if_pos h0]
theorem prs_auth {f : Nat} {acc : Flds} {l : List Int} {PR : Flds × List Int × Int} (h : prs f acc l = PR) (hf : l.length ≤ f) (h0 : l.length = 12) : PR = (acc, l, 0) := by
  rw [← h]
  cases f with
  | zero => omega
  | succ f => rw [prs, if_neg (by omega), if_pos h0]
theorem prs_short {f : Nat} {acc : Flds} {l : List Int} {PR : Flds × List Int × Int} (h : prs f acc l = PR) (hf : l.length ≤ f) (h0 : l.length ≠ 0) (h1 : l.length ≠ 12) (h2 : l.length < 16) : PR = ([], [], 5) := by
  rw [← h]
  cases f with
  | zero => omega
  | succ f => rw [prs, if_neg h0, if_neg h1, if_pos h2]
theorem prs_form {f : Nat} {acc : Flds} {l : List Int} {PR : Flds × List Int × Int} (h : prs f acc l = PR) (hf : l.length ≤ f) (h2 : 16 ≤ l.length) (h3 : psz l < 16 ∨ psz l % 4 ≠ 0) : PR = ([], [], 7) := by
  rw [← h]
  cases f with
  | zero => omega
  | succ f => rw [prs, if_neg (by omega), if_neg (by omega), if_neg (by omega), if_pos h3]
theorem prs_short2 {f : Nat} {acc : Flds} {l : List Int} {PR : Flds × List Int × Int} (h : prs f acc l = PR) (hf : l.length ≤ f) (h2 : 16 ≤ l.length) (h3 : ¬(psz l < 16 ∨ psz l % 4 ≠ 0)) (h4 : l.length < psz l) : PR = ([], [], 5) := by
  rw [← h]
  cases f with
  | zero => omega
  | succ f => rw [prs, if_neg (by omega), if_neg (by omega), if_neg (by omega), if_neg h3, if_pos h4]
theorem prs_long {f : Nat} {acc : Flds} {l : List Int} {PR : Flds × List Int × Int} (h : prs f acc l = PR) (hf : l.length ≤ f) (h2 : 16 ≤ l.length) (h3 : ¬(psz l < 16 ∨ psz l % 4 ≠ 0)) (h4 : psz l ≤ l.length) (h5 : acc.length = 16 ∨ 260 < psz l) : PR = ([], [], 6) := by
  rw [← h]
  cases f with
  | zero => omega
  | succ f => rw [prs, if_neg (by omega), if_neg (by omega), if_neg (by omega), if_neg h3, if_neg (by omega), if_pos h5]
theorem prs_next {f : Nat} {acc : Flds} {l : List Int} {PR : Flds × List Int × Int} (h : prs f acc l = PR) (hf : l.length ≤ f) (h2 : 16 ≤ l.length) (h3 : ¬(psz l < 16 ∨ psz l % 4 ≠ 0)) (h4 : psz l ≤ l.length) (h5 : ¬(acc.length = 16 ∨ 260 < psz l)) : ∃ f', (l.drop (psz l)).length ≤ f' ∧ prs f' (acc ++ [(pkd l, (l.take (psz l)).drop 4)]) (l.drop (psz l)) = PR := by
  cases f with
  | zero => omega
  | succ f =>
    refine ⟨f, by rw [List.length_drop]; omega, ?_⟩
    rw [← h, prs, if_neg (by omega), if_neg (by omega), if_neg (by omega), if_neg h3, if_neg (by omega), if_neg h5]
open Go.RowKit
theorem get_kd (A : Option Addr) (n c lo hi : Nat) (l : List Int) (w : World) (hn : l.length = n) (h : Bs w lo hi A l) (hm : n ≤ c) (hc : c ≤ 9223372036854775807) (h16 : 16 ≤ n) :
    Calls Try.prog 32 #[.slice A n c, .int .i64 0, .int .i64 2] w fun e w' => e = .returned (.tuple #[.int .u64 (pkd l), .int .i64 0]) ∧ w = w' := by
  have h1 := get_any A n c lo hi l 0 2 w hn h hm hc (by omega)
  unfold getR at h1
  rw [getE_0 (by omega) (by omega)] at h1
  exact h1
theorem get_sz (A : Option Addr) (n c lo hi : Nat) (l : List Int) (w : World) (hn : l.length = n) (h : Bs w lo hi A l) (hm : n ≤ c) (hc : c ≤ 9223372036854775807) (h16 : 16 ≤ n) :
    Calls Try.prog 32 #[.slice A n c, .int .i64 2, .int .i64 2] w fun e w' => e = .returned (.tuple #[.int .u64 ((psz l : Nat) : Int), .int .i64 0]) ∧ w = w' := by
  have h1 := get_any A n c lo hi l 2 2 w hn h hm hc (by omega)
  unfold getR at h1
  rw [getE_0 (by omega) (by omega)] at h1
  have e : ((psz l : Nat) : Int) = numB ((l.drop 2).take 2) := by
    have := (numB_range ((l.drop 2).take 2)).1
    unfold psz
    omega
  rw [e]
  exact h1
end Go.Proofs.Ytdnmjeapihjabaa
namespace Go.Proofs.Ytdnmjeapihjabaa
open Go.RowKit
set_option linter.unusedSimpArgs false
set_option linter.unusedVariables false
set_option maxRecDepth 100000
/-- what Parse returns -/
def ParPost (PR : Flds × List Int × Int) (w : World) (e : Ending) (w' : World) : Prop :=
  ∃ (A : Option Addr) (c : Nat) (A2 : Option Addr) (c2 N N2 : Nat) (w1 : World), e = .returned (.tuple #[.slice A N c, .slice A2 N2 c2, .int .i64 PR.2.2]) ∧ PR.1.length = N ∧ PR.2.1.length = N2 ∧ XO w1 w.heap.size A c PR.1 ∧ Below w.heap.size w w1 ∧ Below w1.heap.size w1 w' ∧ Ow w' w1.heap.size A2 c2 PR.2.1
theorem par_err {w wr : World} {E : Int} (h : Below w.heap.size w wr) : ParPost ([], [], E) w (.returned (.tuple #[.slice none 0 0, .slice none 0 0, .int .i64 E])) wr :=
  ⟨none, 0, none, 0, 0, 0, wr, rfl, rfl, rfl, XO.nil _ _, h, Below.refl _ _, Ow.nil _ _⟩
theorem cells2_of {w : World} {g : Nat} {t : TypeId} {cs : List Value} (h : Blk w g t cs) : ∀ j u, cs[j]? = some u → w.cell? ((⟨g, 0, none⟩ : Addr).add j) = some u := fun j u hu => by
  rw [ofAdd, Nat.zero_add]
  exact h.cell hu
set_option maxHeartbeats 16000000 in
theorem parse_any (A : Option Addr) (n c : Nat) (l : List Int) (w : World) (hn : l.length = n) (h : Bs w 0 w.heap.size A l) (hm : n ≤ c) (hc : c ≤ 9223372036854775807) (hn2 : n ≤ 1000000) :
    Calls Try.prog 10 #[.slice A n c] w (ParPost (prs l.length [] l) w) := by
  obtain ⟨PR, hPR⟩ : ∃ PR, prs l.length [] l = PR := ⟨_, rfl⟩
  rw [hPR]
  have HP := Lib.hid hPR
  clear hPR
  go_enter Try.func10, Try.ntmps10
  go_wp2
  go_loopw [0, 5] (fun b lv wr => ParR w PR wr b lv) (fun b _ _ => lenV b)
  case atStart => exact ⟨[], none, 0, A, n, c, l, n, rfl, XOT.nil _ _, rfl, hn, h, hm, hc, Nat.le_refl _, hn2, by rw [← hn]; exact HP.out, by simp, Below.refl _ _⟩
  case round =>
    obtain ⟨T, A1, c1, B, m, cb, rest, f, rfl, hX, rfl, hr, hB, hmc, hcb, hmf, hm6, hprs, h16, hBw⟩ := hrel
    clear h hn HP
    by_cases h0 : m = 0
    · subst h0
      obtain rfl := prs_end hprs hr
      go_wp2
      go_ret3
      exact ⟨A1, c1, none, 0, T.length, 0, wr, rfl, flds_len T, rfl, ⟨T, rfl, hX⟩, hBw, Below.refl _ _, Ow.nil _ _⟩
    by_cases h12 : m = 12
    · subst h12
      obtain rfl := prs_auth hprs (by omega) hr
      have hE := clone_any B 12 cb 0 w.heap.size rest wr hr hB hBw.size (by omega) (fun hn => by
        obtain ⟨b, o, hb, _⟩ := hB.at (by omega)
        rw [hn] at hb; cases hb)
      clear hprs
      have HR := Lib.hid hr
      clear hr
      go_wp2_with fail
      with_reducible refine hE.mono ?_
      rintro e w2 ⟨A4, c4, rfl, O4, z4, b4⟩
      go_wp2
      go_ret3
      exact ⟨A1, c1, A4, c4, T.length, 12, wr, rfl, flds_len T, HR.out, ⟨T, rfl, hX⟩, hBw, b4, O4⟩
    have hm0 : 0 < m := by omega
    have d12 : ((m : Int) == 12) = false := by simp; omega
    by_cases hs : m < 16
    · obtain rfl := prs_short hprs (by omega) (by omega) (by omega) (by omega)
      have d16 : decide ((m : Int) < 16) = true := decide_eq_true (by omega)
      clear hprs hr h0 h12 hs
      go_wp2
      go_ret3
      exact par_err hBw
    have d16 : decide ((m : Int) < 16) = false := decide_eq_false (by omega)
    have hG1 := get_kd B m cb 0 _ rest wr hr hB hmc hcb (by omega)
    have hG2 := get_sz B m cb 0 _ rest wr hr hB hmc hcb (by omega)
    have hkr := pkd_rng rest hB.byt
    have hzr := psz_le rest hB.byt
    obtain ⟨Z, hZ⟩ : ∃ Z, Z = psz rest := ⟨_, rfl⟩
    obtain ⟨KD, hKD⟩ : ∃ KD, KD = pkd rest := ⟨_, rfl⟩
    rw [← hZ] at hG2 hzr
    rw [← hKD] at hG1 hkr
    obtain ⟨hk0, hk1⟩ := hkr
    have hzI : (Z : Int) ≤ 65535 := by omega
    have hm16 : 16 ≤ m := by omega
    clear h0 h12 hs
    by_cases hf : Z < 16 ∨ Z % 4 ≠ 0
    · obtain rfl := prs_form hprs (by omega) (by omega) (by rw [← hZ]; exact hf)
      have HZ := Lib.hid hZ
      have HKD := Lib.hid hKD
      clear hprs hr hZ hKD
      by_cases hz1 : Z < 16
      · have e1 : decide ((Z : Int) < 16) = true := decide_eq_true (by omega)
        clear hf hz1
        go_wp2_with (first
          | (go_at_call 32; ((with_reducible refine hG1.mono ?_); rintro e _ ⟨rfl, rfl⟩))
          | (go_at_call 32; ((with_reducible refine hG2.mono ?_); rintro e _ ⟨rfl, rfl⟩)))
        go_ret3
        exact par_err hBw
      · have e1 : decide ((Z : Int) < 16) = false := decide_eq_false (by omega)
        have e2 : ((Z : Int) % 4 != 0) = true := by simp; omega
        clear hf hz1
        go_wp2_with (first
          | (go_at_call 32; ((with_reducible refine hG1.mono ?_); rintro e _ ⟨rfl, rfl⟩))
          | (go_at_call 32; ((with_reducible refine hG2.mono ?_); rintro e _ ⟨rfl, rfl⟩)))
        go_ret3
        exact par_err hBw
    have e1 : decide ((Z : Int) < 16) = false := decide_eq_false (by omega)
    have e2 : ((Z : Int) % 4 != 0) = false := by simp; omega
    have hz16 : (16 : Int) ≤ Z := by omega
    by_cases hlt : m < Z
    · obtain rfl := prs_short2 hprs (by omega) (by omega) (by rw [← hZ]; exact hf) (by omega)
      have HZ := Lib.hid hZ
      have HKD := Lib.hid hKD
      clear hprs hr hZ hKD hf
      go_wp2_with (first
        | (go_at_call 32; ((with_reducible refine hG1.mono ?_); rintro e _ ⟨rfl, rfl⟩))
        | (go_at_call 32; ((with_reducible refine hG2.mono ?_); rintro e _ ⟨rfl, rfl⟩)))
      go_ret3
      exact par_err hBw
    have hzm : Z ≤ m := by omega
    have hzmI : (Z : Int) ≤ m := by omega
    have e3 : decide (m < Z) = false := decide_eq_false hlt
    by_cases hl : T.length = 16 ∨ 260 < Z
    · obtain rfl := prs_long hprs (by omega) (by omega) (by rw [← hZ]; exact hf) (by omega) (by rw [flds_len, ← hZ]; exact hl)
      have HZ := Lib.hid hZ
      have HKD := Lib.hid hKD
      clear hprs hr hZ hKD hf hlt
      by_cases hl1 : T.length = 16
      · have e4 : ((T.length : Int) == 16) = true := by simp; omega
        clear hl hl1
        go_wp2_with (first
          | (go_at_call 32; ((with_reducible refine hG1.mono ?_); rintro e _ ⟨rfl, rfl⟩))
          | (go_at_call 32; ((with_reducible refine hG2.mono ?_); rintro e _ ⟨rfl, rfl⟩)))
        go_ret3
        exact par_err hBw
      · have e4 : ((T.length : Int) == 16) = false := by simp; omega
        have e5 : decide (256 < (Z : Int) - 4) = true := decide_eq_true (by omega)
        clear hl hl1
        go_wp2_with (first
          | (go_at_call 32; ((with_reducible refine hG1.mono ?_); rintro e _ ⟨rfl, rfl⟩))
          | (go_at_call 32; ((with_reducible refine hG2.mono ?_); rintro e _ ⟨rfl, rfl⟩)))
        go_ret3
        exact par_err hBw
    have e4 : ((T.length : Int) == 16) = false := by simp; omega
    have e5 : decide (256 < (Z : Int) - 4) = false := decide_eq_false (by omega)
    have hz260 : Z ≤ 260 := by omega
    have hT16 : T.length < 16 := by omega
    obtain ⟨f', hf', hp'⟩ := prs_next hprs (by omega) (by omega) (by rw [← hZ]; exact hf) (by omega) (by rw [flds_len, ← hZ]; exact hl)
    obtain ⟨b, o, rfl, _, hbw, _⟩ := hB.at (by omega)
    have hB4 := (hB.take Z).dropm 4
    have hl4 : ((rest.take Z).drop 4).length = Z - 4 := by rw [List.length_drop, List.length_take]; omega
    have hZn := hB.drop (i := Z) (c := cb) (by omega)
    rw [← hZ, ← hKD] at hp'
    rw [← hZ] at hf'
    have hlZ : (rest.drop Z).length = m - Z := by rw [List.length_drop, hr]
    rw [hlZ] at hf'
    generalize (rest.take Z).drop 4 = dt at hB4 hl4 hp'
    generalize rest.drop Z = rest' at hZn hlZ hp'
    have HP := Lib.hid hp'
    have HL4 := Lib.hid hl4
    have HLZ := Lib.hid hlZ
    have HZ := Lib.hid hZ
    have HKD := Lib.hid hKD
    clear hprs hr hZ hKD hf hlt hl hp' hl4 hlZ
    simp only [Option.map, ofAdd] at hB4 hZn
    have hmcI : (m : Int) ≤ cb := by omega
    have hE := clone_any (some ⟨b, o + 4, none⟩) (Z - 4) (Z - 4) 0 w.heap.size dt wr HL4.out hB4 hBw.size (by omega) (fun h => by cases h)
    go_wp2_with (first
      | (go_at_call 32; ((with_reducible refine hG1.mono ?_); rintro e _ ⟨rfl, rfl⟩))
      | (go_at_call 32; ((with_reducible refine hG2.mono ?_); rintro e _ ⟨rfl, rfl⟩)))
    with_reducible refine hE.mono ?_
    rintro e w2 ⟨A4, c4, rfl, O4, z4, b4⟩
    have B2 := hBw.trans (b4.mono hBw.size)
    have X2 := (hX.below b4 (Nat.le_refl _)).alloc (.cells #[.int .i64 KD, .slice A4 (Z - 4) c4] 71)
    have O2 := (O4.wide hBw.size).alloc (.cells #[.int .i64 KD, .slice A4 (Z - 4) c4] 71)
    have R2 := hZn.below b4 hBw.size
    have Jn := cells2_of (Blk.new w2 71 #[.int .i64 KD, .slice A4 (Z - 4) c4] [.int .i64 KD, .slice A4 (Z - 4) c4] rfl)
    have Hn := Lib.hid Jn
    have zb := hBw.size
    have hb4 : w.heap.size ≤ w2.heap.size := Nat.le_trans zb z4
    clear hE hX b4 hZn hB4 Jn hB hBw z4 hG1 hG2 zb O4
    go_wp2_with (first | (at_builtin; refine wpl_append (by rfl) _ _ 45 (by rfl) 71 (.agg #[.int .i64 0, .slice none 0 0]) 2 32 Try.underlying45 infoExt rfl (by omega) (.slice A1 T.length c1) T.length (rowX T) w.heap.size (by rfl) X2.1 ⟨w2.heap.size, 0, none⟩ 1 1 (by rfl) [.int .i64 KD, .slice A4 (Z - 4) c4] rfl Hn.out (by simp [Value.oneCell']) (by omega) (by omega) (by simp; omega) ?_; intro v3 w3 ho3 b3 hg3; obtain ⟨A5, c5, rfl, X5⟩ := xo_push (kd := KD) X2.2 X2.1 O2 (by rw [HL4.out]; exact ho3) hg3))
    have B3 : Below w.heap.size w w3 := (B2.alloc hb4 _).trans b3
    have R3 : Bs w3 0 w.heap.size (if cb = Z then some ⟨b, o, none⟩ else some ⟨b, o + Z, none⟩) rest' := (R2.alloc hb4 _).below b3 (Nat.le_refl _)
    exact ⟨⟨T ++ [((KD, dt), (A4, c4))], A5, c5, _, m - Z, cb - Z, rest', f', by simp, X5, rfl, HLZ.out, R3, by omega, by omega, hf', by omega, by rw [flds_snoc]; exact HP.out, by simp; omega, B3⟩, by simp [lenV]; omega⟩
end Go.Proofs.Ytdnmjeapihjabaa
namespace Go.Proofs.Ytdnmjeapihjabaa
open Go.RowKit
set_option linter.unusedSimpArgs false
set_option linter.unusedVariables false
set_option maxRecDepth 100000
/-- the state of the loop -/
def RParR (w0 : World) (PR : Flds × List Int × Int) (l : List Int) (wr : World) (av lv : Value) : Prop :=
  ∃ (T : List XT) (A : Option Addr) (c k f : Nat), lv = .slice A T.length c ∧ XOT wr w0.heap.size A c T ∧ av = .int .i64 k ∧ k ≤ l.length ∧ l.length - k ≤ f ∧ prs f (flds T) (l.drop k) = PR ∧ T.length ≤ 16 ∧ Below w0.heap.size w0 wr
end Go.Proofs.Ytdnmjeapihjabaa
namespace Go.Proofs.Ytdnmjeapihjabaa
open Go.RowKit
set_option linter.unusedSimpArgs false
set_option linter.unusedVariables false
set_option maxRecDepth 100000
theorem strOf_conv' {w : World} {lo hi c n : Nat} {A : Option Addr} {l : List Int} (hn : l.length = n) (h : Bs w lo hi A l) :
    (convert 39 9 (.slice A n c)).run Try.prog w = .ok (.string (strOf l)) w := by
  by_cases h0 : 0 < n
  · exact strOf_conv hn h h0
  · obtain rfl : n = 0 := by omega
    obtain rfl : l = [] := List.eq_nil_of_length_eq_zero hn
    rcases A with _ | a
    · simp [convert, run_underlying Try.underlying39, run_underlying Try.underlying9, run_underlying Try.underlying5, strOf, loadCells, loadCellsFrom, Sem.run_bind]
      simp [Conv.bytesToString]
      rfl
    · exact run_convert_bytes_back (P := Try.prog) w 39 9 5 a c [] Try.underlying39 Try.underlying5 Try.underlying9 (fun j hj => absurd hj (by simp))
theorem strOf_inj {l m : List Int} (hl : Byt l) (hm : Byt m) : (strOf l = strOf m) ↔ l = m := ⟨fun h => by rw [← bl_strOf hl, ← bl_strOf hm, h], fun h => by rw [h]⟩
end Go.Proofs.Ytdnmjeapihjabaa
namespace Go.Proofs.Ytdnmjeapihjabaa
open Go.RowKit
set_option linter.unusedSimpArgs false
set_option linter.unusedVariables false
set_option maxRecDepth 100000
def fewB (L : Flds) : Bool := (L.all fun t => decide (t.2.length ≤ 400)) && decide (L.length ≤ 24)
theorem fewB_no {L : Flds} {k : Nat} (hk : k < L.length) (h : 400 < (dtL L k).length) : fewB L = false := by
  unfold fewB
  have : (L.all fun t => decide (t.2.length ≤ 400)) = false := by
    rw [List.all_eq_false]
    exact ⟨_, kd_mem hk, by simp; omega⟩
  rw [this]; rfl
theorem fewB_len {L : Flds} (h : ∀ j, j < L.length → (dtL L j).length ≤ 400) : fewB L = decide (L.length ≤ 24) := by
  unfold fewB
  have : (L.all fun t => decide (t.2.length ≤ 400)) = true := by
    rw [List.all_eq_true]
    intro t ht
    obtain ⟨i, hi, rfl⟩ := List.mem_iff_getElem.1 ht
    have h2 := h i hi
    unfold dtL at h2
    rw [List.getD_eq_getElem?_getD, List.getElem?_eq_getElem hi] at h2
    simpa using h2
  rw [this]; rfl
theorem fewB_yes {L : Flds} (h : fewB L = true) : L.length ≤ 24 ∧ ∀ k, k < L.length → (dtL L k).length ≤ 400 := by
  unfold fewB at h
  simp only [Bool.and_eq_true, List.all_eq_true, decide_eq_true_eq] at h
  exact ⟨h.2, fun k hk => h.1 _ (kd_mem hk)⟩
end Go.Proofs.Ytdnmjeapihjabaa
namespace Go.Proofs.Ytdnmjeapihjabaa
open Go.ChangeShapes Go.WideShapes Go.ChangeAt Go.RowKit Go.Joins
set_option linter.unusedSimpArgs false
set_option linter.unusedVariables false
set_option maxRecDepth 100000
section
variable {H : Type} {enc : TypeId × Value → H}
/-- one field, from its cells -/
theorem ext_cells {W : World} {fuel : Nat} {cs : List Value} {x : DataW H × List MemPlace} (h : DataW.trod enc Try.prog W 0 (fun _ => true) true fuel 71 cs = some x) :
    ∃ (kd : Int) (A : Option Addr) (c : Nat) (dt : List Int), cs = [.int .i64 kd, .slice A dt.length c] ∧ Bs W 0 W.heap.size A dt ∧ dt.length ≤ c ∧ c ≤ 9223372036854775807 ∧ (A = none → dt.length = 0 ∧ c = 0) ∧ (0 < c → c ∈ x.1.weights Try.prog 71) := by
  obtain ⟨xs, n, _, hx, hl, hxl, hg⟩ := DataW.trod_struct Try.underlying71 h
  rw [cellsExt] at hl
  match cs, hl with
  | [c0, c1], _ =>
    match xs, hxl with
    | [y0, y1], _ =>
      have g0 := hg 0 _ rfl
      have g1 := hg 1 _ rfl
      simp [cellsI64, cellsSl8] at g0 g1
      obtain ⟨kd, e0, _, _⟩ := DataW.trod_int Try.underlying3 g0
      obtain ⟨A, n', c, l, e1, hn, hB, h1, h2, h3, h4⟩ := cell_bs (fun _ => rfl) g1
      subst hn e1
      simp at e0
      subst e0
      refine ⟨kd, A, c, l, rfl, hB, h1, h2, h3, fun hc => ?_⟩
      rw [hx]
      rw [DataW.weights, Try.underlying71]
      exact DataW.weights_mem_each (j := 1) (t := 39) (d := y1.1) rfl rfl c (h4 hc)
theorem open_exts {W : World} {base : Nat} {v : Value} {d : DataW H} {ps : List MemPlace} (hval : Value.okWide Try.prog W .any base 45 v) (h1 : DataW.Trod enc Try.prog W 0 (fun _ => true) true 45 v d ps) :
    ∃ (A : Option Addr) (n c : Nat) (L : List (Int × List Int)), v = .slice A n c ∧ L.length = n ∧ Xs W W.heap.size A L ∧ n ≤ c ∧ c ≤ 9223372036854775807 ∧ (A = none → n = 0 ∧ c = 0) ∧
      (∀ {ts : List TypeId} {ds : List (DataW H)}, (DataW.weightsEach Try.prog ts ds).all (· ≤ reachBytes) = true → ∀ {j : Nat}, ts[j]? = some 45 → ds[j]? = some d → ∀ k, k < n → (dtL L k).length ≤ 140737488351232) := by
  obtain ⟨a1, len, cap, rfl⟩ := okWide_slice Try.underlying45 hval
  obtain ⟨fuel, hf⟩ := h1
  rcases Go.Deep.open_slice Try.underlying45 hf with ⟨hcs, hx⟩ | ⟨a, len', cap', m, n, D, Pl, hcs, _, hl, hm, hmm, hx, hcell⟩
  · simp [Value.cells] at hcs
    obtain ⟨rfl, rfl, rfl⟩ := hcs
    exact ⟨none, 0, 0, [], rfl, rfl, Xs.nil, Nat.le_refl _, by omega, fun _ => ⟨rfl, rfl⟩, fun _ _ _ _ k hk => absurd hk (by omega)⟩
  · simp [Value.cells] at hcs
    obtain ⟨rfl, rfl, rfl⟩ := hcs
    simp only [if_true] at hmm
    subst hmm
    rw [cellsExt] at hcell
    simp only [Prod.mk.injEq] at hx
    obtain ⟨rfl, _⟩ := hx
    have each : ∀ i, i < m → ∃ q : (Int × List Int) × (Option Addr × Nat), W.cells? 0 (a.add (i * 2)) 2 = some [.int .i64 q.1.1, .slice q.2.1 q.1.2.length q.2.2] ∧ Bs W 0 W.heap.size q.2.1 q.1.2 ∧ q.1.2.length ≤ q.2.2 ∧ q.2.2 ≤ 9223372036854775807 ∧ (q.2.1 = none → q.1.2.length = 0 ∧ q.2.2 = 0) ∧ (0 < q.2.2 → q.2.2 ∈ (D i).weights Try.prog 71) := fun i hi => by
      obtain ⟨cs', h1, h2⟩ := hcell i hi
      obtain ⟨kd, A, c, dt, rfl, b1, b2, b3, b4, b5⟩ := ext_cells h2
      exact ⟨((kd, dt), (A, c)), h1, b1, b2, b3, b4, b5⟩
    obtain ⟨q, hq⟩ := Go.Deep.choose_lt each
    obtain ⟨L, hL⟩ : ∃ L, L = (List.range len).map fun i => (q i).1 := ⟨_, rfl⟩
    have hLl : L.length = len := by rw [hL]; simp
    have hat : ∀ k, k < len → L.getD k (0, []) = (q k).1 := fun k hk => by
      rw [hL, List.getD_eq_getElem?_getD, List.getElem?_map, List.getElem?_range hk]; rfl
    refine ⟨some a, len, m, L, rfl, hLl, fun hp => ?_, hl, by unfold maxLen at hm; exact hm, (fun h => by cases h), fun {ts ds} hsz {j} ht hd k hk => ?_⟩
    · rw [hLl] at hp
      obtain ⟨ab, ao, spot⟩ := a
      obtain ⟨_, _, hcl⟩ := World.cells?_some (hq 0 (by omega)).1
      have h0 := hcl 0 (by omega)
      have hspot : spot = none := by simpa [Addr.add] using World.cell?_spot h0
      subst hspot
      refine ⟨ab, ao, rfl, ?_, fun k hk => ?_⟩
      · have := World.block_lt_of_cell? W _ h0
        simpa [ofAdd] using this
      · rw [hLl] at hk
        obtain ⟨e1, b1, b2, b3, b4, _⟩ := hq k (by omega)
        obtain ⟨_, _, hcl⟩ := World.cells?_some e1
        have c0 := hcl 0 (by omega)
        have c1 := hcl 1 (by omega)
        rw [ofAdd, ofAdd] at c0 c1
        unfold kdL dtL
        rw [hat k hk]
        exact ⟨(q k).2.1, (q k).2.2, by simpa using c0, by simpa using c1, b1, b2, b3, b4⟩
    · unfold dtL
      rw [hat k hk]
      obtain ⟨_, _, b2, _, _, b5⟩ := hq k (by omega)
      by_cases hz : 0 < (q k).2.2
      · have hw := weights_elem (t := 45) (spare := (List.range (m - len)).map fun j => D (len + j)) Try.underlying45 (d := D k) (elems := (List.range len).map D) (List.mem_map.2 ⟨k, List.mem_range.2 hk, rfl⟩) (b5 hz)
        have h9 : (q k).2.2 ≤ reachBytes := by simpa using List.all_eq_true.1 hsz _ (DataW.weights_mem_each ht hd _ hw)
        unfold reachBytes at h9
        omega
      · omega
end
end Go.Proofs.Ytdnmjeapihjabaa
namespace Go.Proofs.Ytdnmjeapihjabaa
open Go.RowKit
set_option linter.unusedSimpArgs false
set_option linter.unusedVariables false
set_option maxRecDepth 100000
theorem xs_one {w : World} {g hi : Nat} {kd : Int} {A : Option Addr} {n c : Nat} {dt : List Int} (h : Blk w g 71 [.int .i64 kd, .slice A n c]) (hn : dt.length = n) (hg : g < hi) (hb : Bs w 0 hi A dt) (h1 : n ≤ c) (h2 : c ≤ 9223372036854775807) (h3 : A = none → n = 0 ∧ c = 0) : Xs w hi (some ⟨g, 0, none⟩) [(kd, dt)] := fun _ =>
  ⟨g, 0, rfl, hg, fun k hk => by
    subst hn
    obtain rfl : k = 0 := by simp at hk; exact hk
    exact ⟨A, c, h.cell (i := 0) rfl, h.cell (i := 1) rfl, hb, h1, h2, h3⟩⟩
theorem ivD_byt (a b : Int) : Byt (bytesB 8 (u64 a) ++ bytesB 8 (u64 b)) := fun x hx => by
  rcases List.mem_append.1 hx with h | h
  · exact bytesB_byt _ _ x h
  · exact bytesB_byt _ _ x h
def ivD (a b : Int) : List Int := bytesB 8 (u64 a) ++ bytesB 8 (u64 b)
theorem ivD_len (a b : Int) : (ivD a b).length = 16 := by simp [ivD, bytesB_length]
theorem iv_apx (a b : Int) : apxE [(28929, ivD a b)] = 0 := by
  have := ivD_len a b
  simp [apxE, firE, chkE, kdL, dtL, this]
theorem rp_E : rpE (nchk 0 4 3 0 0 0) 3 1 0 1000 0 (-20) = 0 := by decide
theorem rp_F : fieldsErr 1 0 1000 = 0 := by decide
theorem rp_D : shortN 0 = 0 := by decide
theorem rp_Q : shortN 1000 = 1 := by decide
theorem rp_N : nchk 0 4 4 1 0 (-20) = 0 := by decide
def hdrX (nonce rec xmt : Int) : List Int := encH 0 4 4 1 0 (-20) 0 1 5 0 nonce rec xmt
set_option maxRecDepth 100000 in
set_option maxHeartbeats 8000000 in
theorem toprep_ok (nonce rec xmt lo hi : Int) (w : World) (hI : ivB lo hi = true) (h1 : 0 ≤ nonce ∧ nonce ≤ 18446744073709551615) (h2 : 0 ≤ rec ∧ rec ≤ 18446744073709551615) (h3 : 0 ≤ xmt ∧ xmt ≤ 18446744073709551615) :
    Calls Try.prog 7 #[ntp 0 4 3 0 0 0 0 0 0 0 0 0 nonce, .int .u64 rec, .int .u64 xmt, root 1 0 1000 5, .agg (ivL lo hi).toArray] w fun e w' => ∃ A c N, e = .returned (.tuple #[.slice A N c, .bool true]) ∧ (hdrX nonce rec xmt ++ fldsB [(28929, ivD lo hi)]).length = N ∧ Ow w' w.heap.size A c (hdrX nonce rec xmt ++ fldsB [(28929, ivD lo hi)]) ∧ Below w.heap.size w w' := by
  have hR := fun W => reply_ok 0 4 3 0 0 0 0 0 0 0 0 0 nonce rec xmt 0 1 0 1000 5 0 (-20) W rp_E rp_F
  simp only [ryN, rp_D, rp_Q, show ryL 1 0 = 0 from rfl, show ryS 1 = 1 from rfl] at hR
  have hF := fun W => field_ok lo hi W hI
  have hE := fun W => encode_ok 0 4 4 1 0 (-20) 0 1 5 0 nonce rec xmt W rp_N (by decide) (by decide) (by decide) (by decide) h1 h2 h3
  go_enter Try.func7, Try.ntmps7
  go_wp2_with (first
    | (refine wpl_box (by rfl) 29 _ (by rfl) _ ([.int .i64 0, .int .i64 4, .int .i64 3, .int .i64 0, .int .i64 0, .int .i64 0, .int .u32 0, .int .u32 0, .int .u32 0, .int .u64 0, .int .u64 0, .int .u64 0, .int .u64 nonce]) (by rfl) rfl ?_; intro w1 P1 s1 b1)
    | ((refine wpl_box (by rfl) 34 _ (by rfl) _ (rtL 1 0 1000 5) (by rfl) rfl ?_; intro w2 R2 s2 b2); (have P2 := P1.below b2 (by omega)))
    | ((refine wpl_box (by rfl) 38 _ (by rfl) _ (ivL lo hi) (by rfl) rfl ?_; intro w3 I3 s3 b3); (have P3 := P2.below b3 (by omega)); (have R3 := R2.below b3 (by omega)))
    | (refine wpl_load (by rfl) 29 _ (by rfl) w.heap.size (by rfl) 29 _ P3 _ Try.underlying29 rfl _ sizeNtp (by rfl) ?_)
    | (refine wpl_load (by rfl) 34 _ (by rfl) w1.heap.size (by rfl) 34 _ R3 _ Try.underlying34 rfl _ sizeRoot (by rfl) ?_)
    | (go_at_call 20; ((with_reducible refine (hR _).mono ?_); rintro e w4 ⟨rfl, b4⟩; (have I4 := I3.below b4 (by omega)); (have z4 := b4.size)))
    | ((refine wpl_alloc (by rfl) 29 (by rfl) (.agg (zN).toArray) (zN) zeroNtp rfl ?_; intro w5 Q5 s5 b5); (have I5 := I4.below b5 (by omega)))
    | ((refine wpl_store (by rfl) 29 _ _ (by rfl) w4.heap.size (by rfl) _ (by rfl) _ rfl 29 _ Q5 (by rfl) _ sizeNtp (by rfl) (by simp [Value.oneCell']) ?_; intro w6 Q6 s6 g6); (have I6 := I5.but g6 (by omega)))
    | (refine wpl_load (by rfl) 38 _ (by rfl) w2.heap.size (by rfl) 38 _ I6 _ Try.underlying38 rfl _ sizeIvl (by rfl) ?_)
    | (go_at_call 21; ((with_reducible refine (hF _).mono ?_); rintro e w7 ⟨fg, rfl, F7, lf, b7⟩; (have Q7 := Q6.below b7 (by omega)); (have z7 := b7.size)))
    | ((refine wpl_alloc (by rfl) 71 (by rfl) (.agg (exL 0 none 0 0).toArray) (exL 0 none 0 0) zeroExt rfl ?_; intro w8 X8 s8 b8); (have Q8 := Q7.below b8 (by omega)); (have F8 := F7.below b8 F7.lt))
    | ((refine wpl_store (by rfl) 71 _ _ (by rfl) w7.heap.size (by rfl) _ (by rfl) _ rfl 71 _ X8 (by rfl) _ sizeExt (by rfl) (by simp [Value.oneCell']) ?_; intro w9 X9 s9 g9); (have Q9 := Q8.but g9 (by omega)); (have F9 := F8.but g9 (by have := F7.lt; omega)))
    | (refine wpl_load (by rfl) 29 _ (by rfl) w4.heap.size (by rfl) 29 _ Q9 _ Try.underlying29 rfl _ sizeNtp (by rfl) ?_)
    | (go_at_call 22; ((with_reducible refine (hE _).mono ?_); rintro e w10 ⟨A10, c10, rfl, O10, hc10, hc10', b10⟩; (have X10 := X9.below b10 (by omega)); (have F10 := F9.below b10 F9.lt); (have z10 := b10.size)))
    | (refine wpl_load (by rfl) 71 _ (by rfl) w7.heap.size (by rfl) 71 _ X10 _ Try.underlying71 rfl _ sizeExt (by rfl) ?_))
  obtain ⟨w11, hw11⟩ : ∃ w11, w10.alloc (.cells #[.int .i64 28929, .slice (some ⟨fg, 0, none⟩) 16 16] 71) = w11 := ⟨_, rfl⟩
  have X11 : Blk w11 w10.heap.size 71 [.int .i64 28929, .slice (some ⟨fg, 0, none⟩) 16 16] := by rw [← hw11]; exact Blk.new w10 _ _ _ rfl
  have b11 : Below w10.heap.size w10 w11 := by rw [← hw11]; exact (Below.refl _ _).alloc (Nat.le_refl _) _
  have F11 := F10.below b11 F10.lt
  have z11 := X11.lt
  have lf11 := F11.lt
  rw [hw11]
  have hX : Xs w11 w11.heap.size (some ⟨w10.heap.size, 0, none⟩) [(28929, ivD lo hi)] := xs_one X11 (ivD_len lo hi) z11 ((F11.bs (ivD_byt lo hi)).wide (Nat.zero_le _) (by omega)) (Nat.le_refl _) (by omega) (fun h => by cases h)
  have hA := xappend_ok A10 48 c10 _ _ (hdrX nonce rec xmt) (some ⟨w10.heap.size, 0, none⟩) 1 1 _ w11 (encH_len _ _ _ _ _ _ _ _ _ _ _ _ _) (O10.below b11 (Nat.le_refl _)) (by omega) (fun hn => by
    obtain ⟨_, _, e, _⟩ := O10.at (by rw [encH_len]; omega)
    rw [hn] at e; cases e) (by omega) rfl hX (Nat.le_refl _) (by omega) (iv_apx lo hi)
  with_reducible refine hA.mono ?_
  rintro e w12 ⟨A12, c12, N12, rfl, hN12, O12, b12⟩
  have B12 : Below w.heap.size w w12 := by
    have a5 := ((((b1.trans (b2.mono b1.size)).trans (b3.mono (by omega))).trans (b4.mono (by omega))).trans (b5.mono (by omega))).trans (g6.below (by omega) (by omega))
    have a9 := ((a5.trans (b7.mono (by omega))).trans (b8.mono (by omega))).trans (g9.below (by omega) (by omega))
    exact ((a9.trans (b10.mono (by omega))).trans (b11.mono (by omega))).trans (b12.mono (by omega))
  clear hA hX
  go_wp2
  go_ret2
  exact ⟨A12, c12, N12, rfl, hN12, O12.wide (by omega), B12⟩
end Go.Proofs.Ytdnmjeapihjabaa
namespace Go.Proofs.Ytdnmjeapihjabaa
open Go.RowKit
set_option linter.unusedSimpArgs false
set_option linter.unusedVariables false
set_option maxRecDepth 100000
/-- an instant in units, rounded down -/
def unU (t : Int) : Int := spQ t * 4294967296 + spF t
theorem nanos_U (t : Int) : nanosN (unU t) = t := by
  have h := spF_rng t
  have e1 : unU t / 4294967296 = spQ t := by unfold unU; omega
  have e2 : unU t % 4294967296 = spF t := by unfold unU; omega
  unfold nanosN
  rw [e1, e2]
  unfold nanoN spF spQ
  omega
theorem tmV_eq (s p : Int) : tmV s p = nanosN (unU p + diffN s (ofN p)) := by
  have e1 : (unU p + diffN s (ofN p)) % 4294967296 = tmLow s p % 4294967296 := by unfold unU tmLow; omega
  have e2 : (unU p + diffN s (ofN p)) / 4294967296 = tmHi s p := by unfold unU tmHi tmLow; omega
  unfold tmV nanosN
  rw [e1, e2]
theorem diff_U {a b : Int} (h : -9223372036854775808 ≤ unU a - unU b ∧ unU a - unU b ≤ 9223372036854775807) : diffN (ofN a) (ofN b) = unU a - unU b := by
  have e1 : ofN a = unU a % 18446744073709551616 := rfl
  have e2 : ofN b = unU b % 18446744073709551616 := rfl
  rw [e1, e2]; unfold diffN wrap64; omega
/-- units between instants -/
theorem unU_le {a b : Int} (h : a ≤ b) : unU a ≤ unU b := by
  have ha := spF_rng a
  have hb := spF_rng b
  unfold unU
  by_cases hq : spQ a = spQ b
  · have hr : spR a ≤ spR b := by have h1 := spQR a; have h2 := spQR b; omega
    have : spF a ≤ spF b := by unfold spF; unfold spR at hr; omega
    omega
  · have : spQ a < spQ b := by unfold spQ at *; omega
    omega
/-- instants d apart (d times an exact number of units per 1953125 ns) -/
theorem unU_scale (t : Int) : 1953125 * unU t ≤ 8388608 * t ∧ 8388608 * t < 1953125 * unU t + 1953125 := by
  unfold unU spQ spF; omega
theorem unU_near {a b : Int} (h1 : a - b < 2147483648000000000) (h2 : b - a < 2147483648000000000) : -9223372036854775808 < unU a - unU b ∧ unU a - unU b < 9223372036854775808 := by
  have ha := unU_scale a
  have hb := unU_scale b
  omega
theorem back_V {t p : Int} (h1 : t - p < 2147483648000000000) (h2 : p - t < 2147483648000000000) : tmV (ofN t) p = t := by
  have h := unU_near h1 h2
  rw [tmV_eq, diff_U (by omega), show unU p + (unU t - unU p) = unU t by omega, nanos_U]
theorem nanos_scale (v : Int) : 8388608 * nanosN v ≥ 1953125 * v ∧ 8388608 * nanosN v < 1953125 * v + 8388608 := by
  unfold nanosN nanoN; omega
theorem U_nanos (v : Int) : v ≤ unU (nanosN v) ∧ unU (nanosN v) ≤ v + 4 := by
  have h1 := nanos_scale v
  have h2 := unU_scale (nanosN v)
  omega
/-- what Time reads, in units -/
def tmU (s p : Int) : Int := unU p + diffN s (ofN p)
theorem near_diff {s p : Int} (h0 : 0 ≤ s) (h1 : s ≤ 18446744073709551615) : diffN (ofN (tmV s p)) s = unU (tmV s p) - tmU s p ∧ 0 ≤ unU (tmV s p) - tmU s p ∧ unU (tmV s p) - tmU s p ≤ 4 := by
  have e : tmV s p = nanosN (tmU s p) := tmV_eq s p
  have hu := U_nanos (tmU s p)
  rw [← e] at hu
  have e1 : ofN (tmV s p) = unU (tmV s p) % 18446744073709551616 := rfl
  have e2 : ofN p = unU p % 18446744073709551616 := rfl
  have e3 : tmU s p = unU p + wrap64 (s - unU p % 18446744073709551616) := by rw [← e2]; rfl
  refine ⟨?_, by omega, by omega⟩
  rw [e1]
  unfold diffN
  rw [e3] at hu ⊢
  unfold wrap64 at *
  omega
theorem near_apart (s p : Int) : -2147483648000000001 ≤ tmV s p - p ∧ tmV s p - p ≤ 2147483648000000001 := by
  have e : tmV s p = nanosN (tmU s p) := tmV_eq s p
  have h1 := nanos_scale (tmU s p)
  rw [← e] at h1
  have h2 := unU_scale p
  have h3 := diffN_rng s (ofN p)
  unfold tmU at h1
  omega
theorem short_long {ns : Int} (h : shortErr ns = 0) : 0 ≤ shortN ns ∧ shortN ns ≤ 4294967295 ∧ ns ≤ longN (shortN ns) ∧ longN (shortN ns) - ns < 15260 ∧ longN (shortN ns) ≤ 9223372036854775807 := by
  unfold shortErr at h
  split at h
  · omega
  · rename_i hh
    have h1 : 0 ≤ ns ∧ shortN ns ≤ 4294967295 := by omega
    unfold shortN at *
    unfold longN
    omega
theorem diff_self (a : Int) : diffN a a = 0 := by unfold diffN wrap64; omega
theorem diff_neg {a b : Int} (h : diffN a b ≠ -9223372036854775808) : diffN b a = -diffN a b := by unfold diffN wrap64 at *; omega
theorem diff_add {a b c : Int} (h1 : -2305843009213693952 < diffN a b) (h2 : diffN a b < 2305843009213693952) (h3 : -2305843009213693952 < diffN b c) (h4 : diffN b c < 2305843009213693952) : diffN a c = diffN a b + diffN b c := by unfold diffN wrap64 at *; omega
end Go.Proofs.Ytdnmjeapihjabaa
