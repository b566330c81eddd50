/- Open of the program and of the reference, in one statement; GuardOpens's walk. Reply of the program and of the reference, in one statement; lists of calls in memory; moderate. The pair of clients and jars (GuardRuns): what is known of it, and accept. The pair: answer. -/
import Derived.Test.YtachhbbofemfdaaDoorGXz20
import Derived.Test.YtachhbbofemfdaaDoorGXz4
import Derived.Test.YtachhbbofemfdaaDoorGXz18
import Derived.Test.YtachhbbofemfdaaDoorGXz19
namespace Go.Proofs.YtachhbbofemfdaaDoor
open Go.RowKit
set_option linter.unusedSimpArgs false
set_option linter.unusedVariables false
set_option maxRecDepth 100000
theorem spI_byt {b : List Int} (h : Byt b) : Byt (spI b) := by
  have hR : Byt (dcR b) := by unfold dcR; split; exact h.drop _; exact Byt.nil
  have hv : ∀ t ∈ spL b, Byt t.2 := by
    obtain ⟨h1, h2⟩ := prs_back hR
    intro t ht
    unfold spL at ht
    by_cases hE : prsE (dcR b) = 0
    · exact ((h1 hE).2.1 t ht).2
    · rw [(h2 hE).1] at ht; cases ht
  unfold spI fdD
  cases hf : (spL b).find? fun t => t.1 == 260 with
  | none => exact Byt.nil
  | some t => exact hv t (List.mem_of_find?_eq_some hf)
theorem spI_16 {b : List Int} (hE : spE b = 0) : (spI b).length = 16 := by
  rcases spE_cases b with ⟨h1, h2⟩ | ⟨h1, h2, h3⟩ | ⟨h1, h2, h3, h4⟩ | ⟨h1, h2, h3, h4, h5⟩
  · exact absurd (h2.symm.trans hE) h1
  · exact absurd (h3.symm.trans hE) h2
  · rw [h4] at hE; cases hE
  · exact h4
/-- what both Opens return -/
def OpB (s kk g : Int) (b : List Int) (l v m st po pr rd rp id ref org rec xmt k0 k1 k2 k3 E : Int) (ID : List Int) : Prop :=
  (∀ (bj : Nat) (A : Option Addr) (n c : Nat) (w : World), Blk w bj 84 (jarL s kk g) → Rnd w → b.length = n → Bs w 0 w.heap.size A b → n ≤ c → c ≤ 9223372036854775807 → n ≤ 1000000 →
    Calls Tryd.prog 11 #[.pointer (some ⟨bj, 0, none⟩), .slice A n c] w fun e w' => ∃ A' c', e = .returned (.tuple #[ntp l v m st po pr rd rp id ref org rec xmt, .agg (tktL A' ID.length c' k0 k1 k2 k3).toArray, .int .i64 E]) ∧ Ow w' w.heap.size A' c' ID ∧ Below w.heap.size w w') ∧
  (∀ (bj : Nat) (A : Option Addr) (n c : Nat) (w : World), Blk w bj 89 (jarL s kk g) → b.length = n → Bs w 0 w.heap.size A b → n ≤ c → c ≤ 9223372036854775807 → n ≤ 1000000 →
    Calls Tryd.prog 13 #[.pointer (some ⟨bj, 0, none⟩), .slice A n c] w fun e w' => ∃ A' c', e = .returned (.tuple #[ntp l v m st po pr rd rp id ref org rec xmt, .agg (tktL A' ID.length c' k0 k1 k2 k3).toArray, .int .i64 E]) ∧ Ow w' w.heap.size A' c' ID ∧ Below w.heap.size w w')
theorem open_both (s kk g : Int) (b : List Int) (hs : U64 s) (hg : Gn g) (hkk : 1 ≤ kk ∧ kk ≤ 8) (hb : Byt b) :
    ∃ l v m st po pr rd rp id ref org rec xmt k0 k1 k2 k3 E ID, OpB s kk g b l v m st po pr rd rp id ref org rec xmt k0 k1 k2 k3 E ID ∧ (U64 k0 ∧ U64 k1 ∧ U64 k2 ∧ U64 k3) ∧ Byt ID ∧ ID.length ≤ 16 := by
  have u0 : U64 0 := ⟨by omega, by omega⟩
  by_cases hE : spE b = 0
  · obtain ⟨l, v, m, st, po, pr, rd, rp, id, ref, org, rec, xmt, hV, _, _⟩ := dcV_form b
    by_cases hT : (spC b).length = 52
    · by_cases hO1 : opE s kk g (spC b) = 0
      · cases hPV : prvB (opK s kk g (spC b) 0) (opK s kk g (spC b) 1) (spB b) (spA b) with
        | true =>
          have h16 := spI_16 hE
          refine ⟨l, v, m, st, po, pr, rd, rp, id, ref, org, rec, xmt, opK s kk g (spC b) 0, opK s kk g (spC b) 1, opK s kk g (spC b) 2, opK s kk g (spC b) 3, 0, spI b, ⟨fun bj A n c w hJ hR hn h hnc hc hm => ?_, fun bj A n c w hJ hn h hnc hc hm => ?_⟩, ⟨opK_u64 _ _ _ (spC_byt hb) _, opK_u64 _ _ _ (spC_byt hb) _, opK_u64 _ _ _ (spC_byt hb) _, opK_u64 _ _ _ (spC_byt hb) _⟩, spI_byt hb, by omega⟩
          · rw [h16]
            exact (gopen_ok bj s kk g A n c b w hJ hs hg hkk hR hn h hnc hc hm hE l v m st po pr rd rp id ref org rec xmt hV hT hO1 hPV).mono fun e w' ⟨r, c', h1, h2, h3⟩ => ⟨_, c', h1, h2, h3⟩
          · rw [h16]
            exact rgopen_ok bj s kk g A n c b w hJ hs hg hkk hn h hnc hc hm hE l v m st po pr rd rp id ref org rec xmt hV hT hO1 hPV
        | false =>
          refine ⟨0, 0, 0, 0, 0, 0, 0, 0, 0, 0, 0, 0, 0, 0, 0, 0, 0, 16, [], ⟨fun bj A n c w hJ hR hn h hnc hc hm => ?_, fun bj A n c w hJ hn h hnc hc hm => ?_⟩, ⟨u0, u0, u0, u0⟩, Byt.nil, by simp⟩
          · exact (gopen_tag bj s kk g A n c b w hJ hs hg hkk hR hn h hnc hc hm hE l v m st po pr rd rp id ref org rec xmt hV hT hO1 hPV).mono fun e w' ⟨h1, h2⟩ => ⟨none, 0, h1, Ow.nil _ _, h2⟩
          · exact (rgopen_tag bj s kk g A n c b w hJ hs hg hkk hn h hnc hc hm hE l v m st po pr rd rp id ref org rec xmt hV hT hO1 hPV).mono fun e w' ⟨h1, h2⟩ => ⟨none, 0, h1, Ow.nil _ _, h2⟩
      · refine ⟨0, 0, 0, 0, 0, 0, 0, 0, 0, 0, 0, 0, 0, 0, 0, 0, 0, opE s kk g (spC b), [], ⟨fun bj A n c w hJ hR hn h hnc hc hm => ?_, fun bj A n c w hJ hn h hnc hc hm => ?_⟩, ⟨u0, u0, u0, u0⟩, Byt.nil, by simp⟩
        · exact (gopen_bad bj s kk g A n c b w hJ hs hg hkk hR hn h hnc hc hm hE l v m st po pr rd rp id ref org rec xmt hV hT hO1).mono fun e w' ⟨h1, h2⟩ => ⟨none, 0, h1, Ow.nil _ _, h2⟩
        · exact (rgopen_bad bj s kk g A n c b w hJ hs hg hkk hn h hnc hc hm hE l v m st po pr rd rp id ref org rec xmt hV hT hO1).mono fun e w' ⟨h1, h2⟩ => ⟨none, 0, h1, Ow.nil _ _, h2⟩
    · refine ⟨0, 0, 0, 0, 0, 0, 0, 0, 0, 0, 0, 0, 0, 0, 0, 0, 0, 7, [], ⟨fun bj A n c w hJ hR hn h hnc hc hm => ?_, fun bj A n c w hJ hn h hnc hc hm => ?_⟩, ⟨u0, u0, u0, u0⟩, Byt.nil, by simp⟩
      · exact (gopen_form bj s kk g A n c b w hJ hs hg hkk hR hn h hnc hc hm hE l v m st po pr rd rp id ref org rec xmt hV hT).mono fun e w' ⟨h1, h2⟩ => ⟨none, 0, h1, Ow.nil _ _, h2⟩
      · exact (rgopen_form bj s kk g A n c b w hJ hs hg hkk hn h hnc hc hm hE l v m st po pr rd rp id ref org rec xmt hV hT).mono fun e w' ⟨h1, h2⟩ => ⟨none, 0, h1, Ow.nil _ _, h2⟩
  · refine ⟨0, 0, 0, 0, 0, 0, 0, 0, 0, 0, 0, 0, 0, 0, 0, 0, 0, spE b, [], ⟨fun bj A n c w hJ hR hn h hnc hc hm => ?_, fun bj A n c w hJ hn h hnc hc hm => ?_⟩, ⟨u0, u0, u0, u0⟩, Byt.nil, by simp⟩
    · exact (gopen_err bj A n c b w hn h hnc hc hm hE).mono fun e w' ⟨h1, h2⟩ => ⟨none, 0, h1, Ow.nil _ _, h2⟩
    · exact (rgopen_err bj A n c b w hn h hnc hc hm hE).mono fun e w' ⟨h1, h2⟩ => ⟨none, 0, h1, Ow.nil _ _, h2⟩
end Go.Proofs.YtachhbbofemfdaaDoor
namespace Go.Proofs.YtachhbbofemfdaaDoor
open Go.RowKit
set_option linter.unusedSimpArgs false
set_option linter.unusedVariables false
set_option maxRecDepth 100000
/-- what both Replies return -/
def RpB (s kk g x0 x1 x2 x3 : Int) (l v m st po pr rd rp id ref org rec xmt nonce : Int) (L : Flds) (id' : List Int) (E : Int) (M : List Int) : Prop :=
  (∀ (bj : Nat) (Ai : Option Addr) (ni ci : Nat) (B : Option Addr) (q d : Nat) (w : World), Blk w bj 84 (jarL s kk g) → Rnd w → L.length = q → Xs w w.heap.size B L → q ≤ d → d ≤ 9223372036854775807 → (∀ k, k < q → (dtL L k).length ≤ 140737488351232) → (B = none → q = 0) → Bs w 0 w.heap.size Ai id' → id'.length = ni → ni ≤ ci → ci ≤ 9223372036854775807 → (Ai = none → ni = 0 ∧ ci = 0) →
    Calls Tryd.prog 17 #[.pointer (some ⟨bj, 0, none⟩), .agg (tktL Ai ni ci x0 x1 x2 x3).toArray, ntp l v m st po pr rd rp id ref org rec xmt, .slice B q d, .int .u64 nonce] w fun e w' => ∃ A c, e = .returned (.tuple #[.slice A M.length c, .int .i64 E]) ∧ Ow w' w.heap.size A c M ∧ Below w.heap.size w w') ∧
  (∀ (bj : Nat) (Ai : Option Addr) (ni ci : Nat) (B : Option Addr) (q d : Nat) (w : World), Blk w bj 89 (jarL s kk g) → L.length = q → Xs w w.heap.size B L → q ≤ d → d ≤ 9223372036854775807 → (∀ k, k < q → (dtL L k).length ≤ 140737488351232) → (B = none → q = 0) → Bs w 0 w.heap.size Ai id' → id'.length = ni → ni ≤ ci → ci ≤ 9223372036854775807 → (Ai = none → ni = 0 ∧ ci = 0) →
    Calls Tryd.prog 18 #[.pointer (some ⟨bj, 0, none⟩), .agg (tktL Ai ni ci x0 x1 x2 x3).toArray, ntp l v m st po pr rd rp id ref org rec xmt, .slice B q d, .int .u64 nonce] w fun e w' => ∃ A c, e = .returned (.tuple #[.slice A M.length c, .int .i64 E]) ∧ Ow w' w.heap.size A c M ∧ Below w.heap.size w w')
theorem reply_both (s kk g x0 x1 x2 x3 : Int) (l v m st po pr rd rp id ref org rec xmt nonce : Int) (L : Flds) (id' : List Int) (h6 : 0 ≤ rd ∧ rd ≤ 4294967295) (h7 : 0 ≤ rp ∧ rp ≤ 4294967295) (h8 : 0 ≤ id ∧ id ≤ 4294967295) (h9 : 0 ≤ ref ∧ ref ≤ 18446744073709551615) (h10 : 0 ≤ org ∧ org ≤ 18446744073709551615) (h11 : 0 ≤ rec ∧ rec ≤ 18446744073709551615) (h12 : 0 ≤ xmt ∧ xmt ≤ 18446744073709551615) (hs : U64 s) (hg : Gn g) (hno : U64 nonce) (hx0 : U64 x0) (hx1 : U64 x1) (hx2 : U64 x2) (hx3 : U64 x3) :
    ∃ E M, RpB s kk g x0 x1 x2 x3 l v m st po pr rd rp id ref org rec xmt nonce L id' E M ∧ M.length ≤ 1000000 := by
  by_cases hE : grE (nchk l v m st po pr) id'.length L = 0
  · refine ⟨0, msgB l v m st po pr rd rp id ref org rec xmt (rpF id' (ckB s g nonce x0 x1 x2 x3) L) x2 x3, ⟨fun bj Ai ni ci B q d w hJ hR hL hX hqd hd hsz hB hI hil hic hicc hin => ?_, fun bj Ai ni ci B q d w hJ hL hX hqd hd hsz hB hI hil hic hicc hin => ?_⟩, ?_⟩
    · subst hil
      exact (greply_ok bj Ai _ ci x0 x1 x2 x3 l v m st po pr rd rp id ref org rec xmt nonce B q d L w hL hX hqd hd hsz s kk g id' hJ hs hg hR hno hx0 hx1 hx2 hx3 hB hI rfl hic hicc hin h6 h7 h8 h9 h10 h11 h12 hE).mono fun e w' ⟨A, c, n, h1, h2, h3⟩ => by
        subst h2
        exact ⟨A, c, h1, h3⟩
    · subst hil
      exact (rgreply_ok bj Ai _ ci x0 x1 x2 x3 l v m st po pr rd rp id ref org rec xmt nonce B q d L w hL hX hqd hd hsz s kk g id' hJ hs hg hno hx0 hx1 hx2 hx3 hB hI rfl hic hicc hin h6 h7 h8 h9 h10 h11 h12 hE).mono fun e w' ⟨A, c, n, h1, h2, h3⟩ => by
        subst h2
        exact ⟨A, c, h1, h3⟩
    · rcases grE_cases (nchk l v m st po pr) id'.length L with ⟨h1, h2⟩ | ⟨h1, h2, h3⟩ | ⟨h1, h2, h3, h4⟩ | ⟨h1, h2, h3, h4, h5⟩ | ⟨h1, h2, h3, h4, h5⟩
      · omega
      · omega
      · omega
      · omega
      · have := flds_small (rpF_apx (L := L) h2 (ckB_len s g nonce x0 x1 x2 x3) h3 h4)
        rw [msgB_len]
        omega
  · refine ⟨grE (nchk l v m st po pr) id'.length L, [], ⟨fun bj Ai ni ci B q d w hJ hR hL hX hqd hd hsz hB hI hil hic hicc hin => ?_, fun bj Ai ni ci B q d w hJ hL hX hqd hd hsz hB hI hil hic hicc hin => ?_⟩, by simp⟩
    · subst hil
      exact (greply_err bj Ai _ ci x0 x1 x2 x3 l v m st po pr rd rp id ref org rec xmt nonce B q d L w hL hX hqd hd hsz hE).mono fun e w' ⟨h1, h2⟩ => ⟨none, 0, h1, Ow.nil _ _, h2⟩
    · subst hil
      exact (rgreply_err bj Ai _ ci x0 x1 x2 x3 l v m st po pr rd rp id ref org rec xmt nonce B q d L w hL hX hqd hd hsz hE).mono fun e w' ⟨h1, h2⟩ => ⟨none, 0, h1, Ow.nil _ _, h2⟩
/-- one call of GuardRuns -/
structure OpT where
  kd : Int
  n : Int
  l : Int
  v : Int
  m : Int
  st : Int
  po : Int
  pr : Int
  rd : Int
  rp : Int
  id : Int
  ref : Int
  org : Int
  rc : Int
  xmt : Int
  nonce : Int
  L : Flds
  b : List Int
def opZ : OpT := ⟨0, 0, 0, 0, 0, 0, 0, 0, 0, 0, 0, 0, 0, 0, 0, 0, [], []⟩
def opAt (T : List OpT) (k : Nat) : OpT := T.getD k opZ
abbrev opC (kd n l v m st po pr rd rp id ref org rec xmt nonce : Int) (A : Option Addr) (na ca : Nat) (B : Option Addr) (nb cb : Nat) : List Value := [.int .u8 kd, .int .i64 n, .int .i64 l, .int .i64 v, .int .i64 m, .int .i64 st, .int .i64 po, .int .i64 pr, .int .u32 rd, .int .u32 rp, .int .u32 id, .int .u64 ref, .int .u64 org, .int .u64 rec, .int .u64 xmt, .int .u64 nonce, .slice A na ca, .slice B nb cb]
abbrev opCt (t : OpT) (A : Option Addr) (ca : Nat) (B : Option Addr) (cb : Nat) : List Value := opC t.kd t.n t.l t.v t.m t.st t.po t.pr t.rd t.rp t.id t.ref t.org t.rc t.xmt t.nonce A t.L.length ca B t.b.length cb
theorem sizeOp : (Tryd.prog.info? 45).map (·.size) = some 18 := by kernel_rfl
theorem zeroOp : (Tryd.prog.info? 45).map (·.zero) = some (some (.agg (opC 0 0 0 0 0 0 0 0 0 0 0 0 0 0 0 0 none 0 0 none 0 0).toArray)) := by kernel_rfl
/-- a call's cells, its fields and its bytes in blocks below hi -/
def Opd (w : World) (hi b o : Nat) (t : OpT) : Prop :=
  ∃ A ca B cb, w.rangeAt b o (opCt t A ca B cb) ∧ (Xs w hi A t.L ∧ t.L.length ≤ ca ∧ ca ≤ 9223372036854775807 ∧ (A = none → t.L.length = 0)) ∧ Bs w 0 hi B t.b ∧ t.b.length ≤ cb ∧ cb ≤ 9223372036854775807 ∧ (B = none → t.b.length = 0 ∧ cb = 0)
def Opl (w : World) (hi : Nat) (A : Option Addr) (T : List OpT) : Prop :=
  0 < T.length → ∃ b o, A = some ⟨b, o, none⟩ ∧ b < hi ∧ ∀ k, k < T.length → Opd w hi b (o + k * 18) (opAt T k)
theorem Opd.below {w w' : World} {hi b o B : Nat} {t : OpT} (h : Opd w hi b o t) (hb : Below B w w') (h1 : hi ≤ B) (h2 : b < B) : Opd w' hi b o t := by
  obtain ⟨A, ca, D, cb, hr, ⟨hX, q1, q2, q3⟩, hB, q4⟩ := h
  exact ⟨A, ca, D, cb, range_below hr hb h2, ⟨hX.below hb h1, q1, q2, q3⟩, hB.below hb h1, q4⟩
theorem Opl.below {w w' : World} {hi B : Nat} {A : Option Addr} {T : List OpT} (h : Opl w hi A T) (hb : Below B w w') (h1 : hi ≤ B) : Opl w' hi A T := fun hn => by
  obtain ⟨b, o, e, h2, hc⟩ := h hn
  exact ⟨b, o, e, h2, fun k hk => (hc k hk).below hb h1 (by omega)⟩
def fewL (L : Flds) : Bool := L.all fun t => decide (t.2.length ≤ 300)
def okO (t : OpT) : Bool := decide (t.b.length ≤ 2000) && decide (t.L.length ≤ 20) && fewL t.L
def modB (T : List OpT) : Bool := T.all okO && decide (T.length ≤ 40)
theorem opAt_get {T : List OpT} {k : Nat} (h : k < T.length) : opAt T k = T[k] := by
  unfold opAt
  rw [List.getD_eq_getElem?_getD, List.getElem?_eq_getElem h]
  rfl
theorem mod_no {T : List OpT} {k : Nat} (hk : k < T.length) (h : okO (opAt T k) = false) : modB T = false := by
  unfold modB
  rw [Bool.and_eq_false_iff]
  left
  rw [List.all_eq_false]
  exact ⟨_, List.getElem_mem hk, by rw [← opAt_get hk, h]; simp⟩
theorem mod_len {T : List OpT} (h : ∀ j, j < T.length → okO (opAt T j) = true) : modB T = decide (T.length ≤ 40) := by
  unfold modB
  have : T.all okO = true := List.all_eq_true.2 fun t ht => by
    obtain ⟨i, hi, rfl⟩ := List.mem_iff_getElem.1 ht
    rw [← opAt_get hi]
    exact h i hi
  rw [this, Bool.true_and]
theorem mod_yes {T : List OpT} (h : modB T = true) : T.length ≤ 40 ∧ ∀ j, j < T.length → okO (opAt T j) = true := by
  unfold modB at h
  rw [Bool.and_eq_true] at h
  refine ⟨by simpa using h.2, fun j hj => ?_⟩
  rw [opAt_get hj]
  exact List.all_eq_true.1 h.1 _ (List.getElem_mem hj)
theorem fewL_no {L : Flds} {k : Nat} (hk : k < L.length) (h : 300 < (dtL L k).length) : fewL L = false := by
  unfold fewL
  rw [List.all_eq_false]
  refine ⟨_, List.getElem_mem hk, ?_⟩
  rw [(kd_get hk).2] at h
  simp
  omega
theorem fewL_yes {L : Flds} (h : ∀ j, j < L.length → (dtL L j).length ≤ 300) : fewL L = true := by
  unfold fewL
  refine List.all_eq_true.2 fun t ht => ?_
  obtain ⟨i, hi, rfl⟩ := List.mem_iff_getElem.1 ht
  have := h i hi
  rw [(kd_get hi).2] at this
  simpa using this
theorem fewL_dt {L : Flds} (h : fewL L = true) : ∀ j, j < L.length → (dtL L j).length ≤ 300 := fun j hj => by
  rw [(kd_get hj).2]
  simpa using List.all_eq_true.1 h _ (List.getElem_mem hj)
theorem okO_yes {t : OpT} (h : okO t = true) : t.b.length ≤ 2000 ∧ t.L.length ≤ 20 ∧ fewL t.L = true := by
  unfold okO at h
  simp only [Bool.and_eq_true, decide_eq_true_eq] at h
  exact ⟨h.1.1, h.1.2, h.2⟩
set_option maxRecDepth 100000 in
set_option maxHeartbeats 8000000 in
theorem mod_any (A : Option Addr) (n c : Nat) (T : List OpT) (w : World) (hn : T.length = n) (h : Opl w w.heap.size A T) (hnc : n ≤ c) (hc : c ≤ 9223372036854775807) :
    Calls Tryd.prog 16 #[.slice A n c] w fun e w' => e = .returned (.bool (modB T)) ∧ Below w.heap.size w w' := by
  have HNo : Hid (∀ k, k < n → okO (opAt T k) = false → modB T = false) := fun k hk he => mod_no (by omega) he
  have HYes : Hid ((∀ k, k < n → okO (opAt T k) = true) → modB T = decide ((n : Int) ≤ 40)) := fun hh => by
    rw [mod_len (fun j hj => hh j (by omega)), hn]
    congr 1
    simp
    omega
  generalize modB T = MB at HNo HYes ⊢
  have HN := Lib.hid hn
  clear hn
  go_enter Tryd.func16, Tryd.ntmps16
  go_wp2
  go_loopw [9] (fun i wr => ∃ k : Nat, k ≤ n ∧ i = .int .i64 k ∧ Hid (∀ j, j < k → okO (opAt T j) = true) ∧ Below w.heap.size w wr) (fun i _ => n - (intOf i).toNat)
  case atStart => exact ⟨0, by omega, rfl, fun j hj => absurd hj (by omega), Below.refl _ _⟩
  case round =>
    obtain ⟨k, hk, rfl, hV, hBw⟩ := hrel
    by_cases hlt : k < n
    · obtain ⟨b, o, rfl, hbw, hx⟩ := (h.below hBw (Nat.le_refl _)) (by rw [HN.out]; omega)
      obtain ⟨Ak, ca, Bk, cb, hrg, ⟨hX, q1, q2, q3⟩, _, _, _, _⟩ := hx k (by rw [HN.out]; omega)
      have hNk := HNo.out k hlt
      have hi0 : (0 : Int) ≤ k := by omega
      have hi1 : (k : Int) < n := by omega
      obtain ⟨t, ht⟩ : ∃ t, t = opAt T k := ⟨_, rfl⟩
      rw [← ht] at hrg hX q1 q3 hNk
      have HT := Lib.hid ht
      clear ht hx
      obtain ⟨kd, nn, l, v, m, st, po, pr, rd, rp, id, ref, org, rec, xmt, nonce, L, bb⟩ := t
      dsimp only [opCt] at hrg hX q1 q3
      obtain ⟨NB, hNB⟩ : ∃ NB, bb.length = NB := ⟨_, rfl⟩
      obtain ⟨NL, hNL⟩ : ∃ NL, L.length = NL := ⟨_, rfl⟩
      rw [hNB, hNL] at hrg
      rw [hNL] at q1 q3
      have hOk : okO ⟨kd, nn, l, v, m, st, po, pr, rd, rp, id, ref, org, rec, xmt, nonce, L, bb⟩ = (decide (NB ≤ 2000) && decide (NL ≤ 20) && fewL L) := by unfold okO; rw [hNB, hNL]
      rw [hOk] at hNk
      have HO := Lib.hid hOk
      have HNL := Lib.hid hNL
      clear hOk hNB hNL
      by_cases hb1 : NB ≤ 2000
      · by_cases hb2 : NL ≤ 20
        · have d1 : decide ((2000 : Int) < NB) = false := decide_eq_false (by omega)
          have d2 : decide ((20 : Int) < NL) = false := decide_eq_false (by omega)
          have hNk' : fewL L = false → MB = false := fun e => hNk (by rw [e]; simp)
          have HNk := Lib.hid hNk'
          have HO' : Hid (fewL L = true → okO ⟨kd, nn, l, v, m, st, po, pr, rd, rp, id, ref, org, rec, xmt, nonce, L, bb⟩ = true) := fun e => by rw [HO.out, e]; simp [hb1, hb2]
          clear hNk hNk' hb1 HO
          go_wp2_with (first
            | (refine wpl_loadr (by rfl) 45 _ (by rfl) b (o + k * 18) (by rfl) _ hrg _ Tryd.underlying45 rfl _ sizeOp (by rfl) ?_)
            | (refine wpl_alloc (by rfl) 45 (by rfl) (.agg (opC 0 0 0 0 0 0 0 0 0 0 0 0 0 0 0 0 none 0 0 none 0 0).toArray) (opC 0 0 0 0 0 0 0 0 0 0 0 0 0 0 0 0 none 0 0 none 0 0) zeroOp rfl ?_; intro wa Ja sa ba)
            | (refine wpl_store (by rfl) 45 _ _ (by rfl) wr.heap.size (by rfl) _ (by rfl) _ rfl 45 _ Ja (by rfl) _ sizeOp (by rfl) (by simp [Value.oneCell']) ?_; intro wb Jb sb gb)
            | (refine wpl_loadf (by rfl) 23 _ (by rfl) wr.heap.size 17 (by rfl) _ _ Jb _ rfl _ Tryd.underlying23 rfl ?_)
            | (refine wpl_loadf (by rfl) 42 _ (by rfl) wr.heap.size 16 (by rfl) _ _ Jb _ rfl _ Tryd.underlying42 rfl ?_))
          have B2 : Below w.heap.size w wb := (hBw.trans (ba.mono hBw.size)).trans (gb.below (hBw.trans (ba.mono hBw.size)).size hBw.size)
          have X2 := hX.below ((ba.mono hBw.size).trans (gb.below (B := w.heap.size) (Nat.le_trans hBw.size ba.size) hBw.size)) (Nat.le_refl _)
          clear hrg hX Ja Jb ba gb sa sb
          go_loopw [26] (fun i wx => ∃ j : Nat, j ≤ NL ∧ i = .int .i64 j ∧ Hid (∀ q, q < j → (dtL L q).length ≤ 300) ∧ Below w.heap.size w wx ∧ Below w.heap.size wb wx) (fun i _ => NL - (intOf i).toNat)
          case atStart => exact ⟨0, by omega, rfl, fun j hj => absurd hj (by omega), B2, Below.refl _ _⟩
          case round =>
            obtain ⟨j, hj, rfl, hW, hBx, hBy⟩ := hrel
            by_cases hjl : j < NL
            · obtain ⟨b2, o2, rfl, hbw2, hx2⟩ := (X2.below hBy (Nat.le_refl _)) (by rw [HNL.out]; omega)
              obtain ⟨Aj, cj, hrg2, _, _, _, _⟩ := (hx2 j (by rw [HNL.out]; omega)).open'
              have hj0 : (0 : Int) ≤ j := by omega
              have hj1 : (j : Int) < NL := by omega
              obtain ⟨D, hD⟩ : ∃ D, (dtL L j).length = D := ⟨_, rfl⟩
              rw [hD] at hrg2
              generalize kdL L j = K at hrg2
              have HD := Lib.hid hD
              clear hD hx2
              by_cases hD3 : D ≤ 300
              · have d3 : decide ((300 : Int) < D) = false := decide_eq_false (by omega)
                have hW' : Hid (∀ q, q < j + 1 → (dtL L q).length ≤ 300) := fun q hq => by
                  rcases Nat.lt_or_ge q j with h1 | h1
                  · exact hW.out q h1
                  · obtain rfl : q = j := by omega
                    rw [HD.out]; exact hD3
                clear hD3
                go_wp2_with (first
                  | (refine wpl_loadr (by rfl) 62 _ (by rfl) b2 (o2 + j * 2) (by rfl) _ hrg2 _ Tryd.underlying62 rfl _ sizeExt (by rfl) ?_)
                  | (refine wpl_alloc (by rfl) 62 (by rfl) (.agg (exC 0 none 0 0).toArray) (exC 0 none 0 0) zeroExt rfl ?_; intro wc Jc sc bc)
                  | (refine wpl_store (by rfl) 62 _ _ (by rfl) wr.heap.size (by rfl) _ (by rfl) _ rfl 62 _ Jc (by rfl) _ sizeExt (by rfl) (by simp [Value.oneCell']) ?_; intro wd Jd sd gd)
                  | (refine wpl_loadf (by rfl) 23 _ (by rfl) wr.heap.size 1 (by rfl) _ _ Jd _ rfl _ Tryd.underlying23 rfl ?_))
                exact ⟨⟨j + 1, by omega, by go_num, hW', (hBx.trans (bc.mono hBx.size)).trans (gd.below (hBx.trans (bc.mono hBx.size)).size hBx.size), (hBy.trans (bc.mono hBx.size)).trans (gd.below (hBx.trans (bc.mono hBx.size)).size hBx.size)⟩, by simp [intOf]; omega⟩
              · have d3 : decide ((300 : Int) < D) = true := decide_eq_true (by omega)
                have hMB : MB = false := HNk.out (fewL_no (k := j) (by rw [HNL.out]; omega) (by rw [HD.out]; omega))
                clear hD3
                go_wp2_with (first
                  | (refine wpl_loadr (by rfl) 62 _ (by rfl) b2 (o2 + j * 2) (by rfl) _ hrg2 _ Tryd.underlying62 rfl _ sizeExt (by rfl) ?_)
                  | (refine wpl_alloc (by rfl) 62 (by rfl) (.agg (exC 0 none 0 0).toArray) (exC 0 none 0 0) zeroExt rfl ?_; intro wc Jc sc bc)
                  | (refine wpl_store (by rfl) 62 _ _ (by rfl) wr.heap.size (by rfl) _ (by rfl) _ rfl 62 _ Jc (by rfl) _ sizeExt (by rfl) (by simp [Value.oneCell']) ?_; intro wd Jd sd gd)
                  | (refine wpl_loadf (by rfl) 23 _ (by rfl) wr.heap.size 1 (by rfl) _ _ Jd _ rfl _ Tryd.underlying23 rfl ?_))
                go_ret
                exact ⟨by rw [hMB]; rfl, (hBx.trans (bc.mono hBx.size)).trans (gd.below (hBx.trans (bc.mono hBx.size)).size hBx.size)⟩
            · obtain rfl : j = NL := by omega
              have hV' : Hid (∀ q, q < k + 1 → okO (opAt T q) = true) := fun q hq => by
                rcases Nat.lt_or_ge q k with h1 | h1
                · exact hV.out q h1
                · obtain rfl : q = k := by omega
                  rw [← HT.out]
                  exact HO'.out (fewL_yes (by rw [HNL.out]; exact hW.out))
              go_wp2
              exact ⟨⟨k + 1, by omega, by go_num, hV', hBx⟩, by simp [intOf]; omega⟩
        · have d1 : decide ((2000 : Int) < NB) = false := decide_eq_false (by omega)
          have d2 : decide ((20 : Int) < NL) = true := decide_eq_true (by omega)
          have hMB : MB = false := hNk (by simp; omega)
          clear hNk hb1 hb2 HO
          go_wp2_with (first
            | (refine wpl_loadr (by rfl) 45 _ (by rfl) b (o + k * 18) (by rfl) _ hrg _ Tryd.underlying45 rfl _ sizeOp (by rfl) ?_)
            | (refine wpl_alloc (by rfl) 45 (by rfl) (.agg (opC 0 0 0 0 0 0 0 0 0 0 0 0 0 0 0 0 none 0 0 none 0 0).toArray) (opC 0 0 0 0 0 0 0 0 0 0 0 0 0 0 0 0 none 0 0 none 0 0) zeroOp rfl ?_; intro wa Ja sa ba)
            | (refine wpl_store (by rfl) 45 _ _ (by rfl) wr.heap.size (by rfl) _ (by rfl) _ rfl 45 _ Ja (by rfl) _ sizeOp (by rfl) (by simp [Value.oneCell']) ?_; intro wb Jb sb gb)
            | (refine wpl_loadf (by rfl) 23 _ (by rfl) wr.heap.size 17 (by rfl) _ _ Jb _ rfl _ Tryd.underlying23 rfl ?_)
            | (refine wpl_loadf (by rfl) 42 _ (by rfl) wr.heap.size 16 (by rfl) _ _ Jb _ rfl _ Tryd.underlying42 rfl ?_))
          go_ret
          exact ⟨by rw [hMB]; rfl, (hBw.trans (ba.mono hBw.size)).trans (gb.below (hBw.trans (ba.mono hBw.size)).size hBw.size)⟩
      · have d1 : decide ((2000 : Int) < NB) = true := decide_eq_true (by omega)
        have hMB : MB = false := hNk (by simp; omega)
        clear hNk hb1 HO
        go_wp2_with (first
          | (refine wpl_loadr (by rfl) 45 _ (by rfl) b (o + k * 18) (by rfl) _ hrg _ Tryd.underlying45 rfl _ sizeOp (by rfl) ?_)
          | (refine wpl_alloc (by rfl) 45 (by rfl) (.agg (opC 0 0 0 0 0 0 0 0 0 0 0 0 0 0 0 0 none 0 0 none 0 0).toArray) (opC 0 0 0 0 0 0 0 0 0 0 0 0 0 0 0 0 none 0 0 none 0 0) zeroOp rfl ?_; intro wa Ja sa ba)
          | (refine wpl_store (by rfl) 45 _ _ (by rfl) wr.heap.size (by rfl) _ (by rfl) _ rfl 45 _ Ja (by rfl) _ sizeOp (by rfl) (by simp [Value.oneCell']) ?_; intro wb Jb sb gb)
          | (refine wpl_loadf (by rfl) 23 _ (by rfl) wr.heap.size 17 (by rfl) _ _ Jb _ rfl _ Tryd.underlying23 rfl ?_)
          | (refine wpl_loadf (by rfl) 42 _ (by rfl) wr.heap.size 16 (by rfl) _ _ Jb _ rfl _ Tryd.underlying42 rfl ?_))
        go_ret
        exact ⟨by rw [hMB]; rfl, (hBw.trans (ba.mono hBw.size)).trans (gb.below (hBw.trans (ba.mono hBw.size)).size hBw.size)⟩
    · obtain rfl : k = n := by omega
      have hMB := HYes.out hV.out
      go_wp2
      go_ret
      exact ⟨by rw [hMB]; rfl, hBw⟩
end Go.Proofs.YtachhbbofemfdaaDoor
namespace Go.Proofs.YtachhbbofemfdaaDoor
open Go.RowKit
set_option linter.unusedSimpArgs false
set_option linter.unusedVariables false
set_option maxRecDepth 100000
abbrev pairL (vC vD : Option Addr) (bj bk : Nat) (Am : Option Addr) (nm cm : Nat) (Ar : Option Addr) (nr cr : Nat) : List Value := [.pointer vC, .pointer vD, .pointer (some ⟨bj, 0, none⟩), .pointer (some ⟨bk, 0, none⟩), .slice Am nm cm, .slice Ar nr cr]
/-! ### either client, or none -/
def PA (mu : Bool) (w : World) (c : Nat → Nat) (lo : Nat) (vC : Option Addr) (k0 k1 k2 k3 : Int) (CK : List (List Int)) (N : Int) (I : List (List Int)) : Prop :=
  match mu with
  | false => vC = none ∧ CK = []
  | true => ∃ b, vC = some ⟨b, 0, none⟩ ∧ CCl w c lo b k0 k1 k2 k3 CK N I
def PB (mu : Bool) (w : World) (c : Nat → Nat) (lo : Nat) (vD : Option Addr) (k0 k1 k2 k3 : Int) (CK : List (List Int)) (N : Int) (I : List (List Int)) : Prop :=
  match mu with
  | false => vD = none ∧ CK = []
  | true => ∃ b, vD = some ⟨b, 0, none⟩ ∧ CRl w c lo b k0 k1 k2 k3 CK N I
section
variable {mu : Bool} {w w' : World} {c d : Nat → Nat} {lo a : Nat} {vC vD : Option Addr} {k0 k1 k2 k3 N : Int} {CK I : List (List Int)}
theorem PA.gw (h : PA mu w c lo vC k0 k1 k2 k3 CK N I) (g : Gw a w c w' d) (ha : a ≠ 1) : PA mu w' d lo vC k0 k1 k2 k3 CK N I := by
  cases mu with
  | false => exact h
  | true =>
    obtain ⟨b, e, h⟩ := h
    exact ⟨b, e, h.gw g ha⟩
theorem PB.gw (h : PB mu w c lo vD k0 k1 k2 k3 CK N I) (g : Gw a w c w' d) (ha : a ≠ 2) : PB mu w' d lo vD k0 k1 k2 k3 CK N I := by
  cases mu with
  | false => exact h
  | true =>
    obtain ⟨b, e, h⟩ := h
    exact ⟨b, e, h.gw g ha⟩
/-! ### Accept -/
def aE (mu : Bool) (k2 k3 : Int) (I : List (List Int)) (b : List Int) : Int := match mu with | false => 1 | true => accE k2 k3 I b
def aV (mu : Bool) (k2 k3 : Int) (I : List (List Int)) (b : List Int) : Value := match mu with | false => ntp0 | true => accV k2 k3 I b
def aL (mu : Bool) (k2 k3 : Int) (I : List (List Int)) (b : List Int) : Flds := match mu with | false => [] | true => accL k2 k3 I b
def aC (mu : Bool) (k2 k3 : Int) (I : List (List Int)) (b : List Int) (CK : List (List Int)) : List (List Int) := match mu with | false => CK | true => accC k2 k3 I b CK
def aI (mu : Bool) (k2 k3 : Int) (I : List (List Int)) (b : List Int) : List (List Int) := match mu with | false => I | true => accI k2 k3 I b
theorem aV_form (mu : Bool) (k2 k3 : Int) (I : List (List Int)) (b : List Int) : ∃ l v m st po pr rd rp id ref org rec xmt : Int, aV mu k2 k3 I b = ntp l v m st po pr rd rp id ref org rec xmt := by
  cases mu with
  | false => exact ⟨_, _, _, _, _, _, _, _, _, _, _, _, _, rfl⟩
  | true => exact accV_form k2 k3 I b
theorem aC_len (mu : Bool) (k2 k3 : Int) (I : List (List Int)) (b : List Int) {CK : List (List Int)} (h : CK.length ≤ 8) : (aC mu k2 k3 I b CK).length ≤ 8 := by
  cases mu with
  | false => exact h
  | true =>
    show (accC k2 k3 I b CK).length ≤ 8
    unfold accC
    split
    · exact ckN_len _ _
    · exact h
theorem aI_len (mu : Bool) (k2 k3 : Int) (I : List (List Int)) (b : List Int) (h : I.length ≤ 8) : (aI mu k2 k3 I b).length ≤ 8 := by
  cases mu with
  | false => exact h
  | true =>
    show (accI k2 k3 I b).length ≤ 8
    unfold accI
    split
    · rw [List.length_append, List.length_take, List.length_drop]; omega
    · exact h
theorem pacc (A : Option Addr) (n ca : Nat) (R : List Int) (h : PA mu w c lo vC k0 k1 k2 k3 CK N I) (hk2 : U64 k2) (hk3 : U64 k3) (hR : Rnd w) (hn8 : CK.length ≤ 8) (hn28 : I.length ≤ 8)
    (hn : R.length = n) (hB : Bs w 0 w.heap.size A R) (hnc : n ≤ ca) (hc : ca ≤ 9223372036854775807) (hm : n ≤ 1000000) :
    Calls Tryd.prog 24 #[.pointer vC, .slice A n ca] w fun e w' => ∃ P1 p1 q1, e = .returned (.tuple #[aV mu k2 k3 I R, .slice P1 p1 q1, .int .i64 (aE mu k2 k3 I R)]) ∧ (aL mu k2 k3 I R).length = p1 ∧ XO w' w.heap.size P1 q1 (aL mu k2 k3 I R) ∧
      PA mu w' (rcl w 1 c) lo vC k0 k1 k2 k3 (aC mu k2 k3 I R CK) N (aI mu k2 k3 I R) ∧ Gw 1 w c w' (rcl w 1 c) := by
  cases mu with
  | false =>
    obtain ⟨rfl, rfl⟩ := h
    exact (acc_nil A n ca w).mono fun e w' ⟨h1, h2⟩ => ⟨none, 0, 0, h1, rfl, XO.nil _ _, ⟨rfl, rfl⟩, Gw.of_below h2 (fun _ q => rcl_old q)⟩
  | true =>
    obtain ⟨b, rfl, h⟩ := h
    exact (qacc A n ca R h hk2 hk3 hR hn8 hn28 hn hB hnc hc hm).mono fun e w' ⟨P1, p1, q1, z1, z2, z3, z4, z5⟩ => ⟨P1, p1, q1, z1, z2, z3, ⟨b, rfl, z4⟩, z5⟩
theorem pracc (A : Option Addr) (n ca : Nat) (R : List Int) (h : PB mu w c lo vD k0 k1 k2 k3 CK N I) (hk2 : U64 k2) (hk3 : U64 k3) (hn8 : CK.length ≤ 8) (hn28 : I.length ≤ 8)
    (hn : R.length = n) (hB : Bs w 0 w.heap.size A R) (hnc : n ≤ ca) (hc : ca ≤ 9223372036854775807) (hm : n ≤ 1000000) :
    Calls Tryd.prog 86 #[.pointer vD, .slice A n ca] w fun e w' => ∃ P1 p1 q1, e = .returned (.tuple #[aV mu k2 k3 I R, .slice P1 p1 q1, .int .i64 (aE mu k2 k3 I R)]) ∧ (aL mu k2 k3 I R).length = p1 ∧ XO w' w.heap.size P1 q1 (aL mu k2 k3 I R) ∧
      PB mu w' (rcl w 2 c) lo vD k0 k1 k2 k3 (aC mu k2 k3 I R CK) N (aI mu k2 k3 I R) ∧ Gw 2 w c w' (rcl w 2 c) := by
  cases mu with
  | false =>
    obtain ⟨rfl, rfl⟩ := h
    exact (rcacc_nil A n ca w).mono fun e w' ⟨h1, h2⟩ => ⟨none, 0, 0, h1, rfl, XO.nil _ _, ⟨rfl, rfl⟩, Gw.of_below h2 (fun _ q => rcl_old q)⟩
  | true =>
    obtain ⟨b, rfl, h⟩ := h
    exact (qracc A n ca R h hk2 hk3 hn8 hn28 hn hB hnc hc hm).mono fun e w' ⟨P1, p1, q1, z1, z2, z3, z4, z5⟩ => ⟨P1, p1, q1, z1, z2, z3, ⟨b, rfl, z4⟩, z5⟩
end
/-! ### the pair: owners 4 (itself), 5 (the row of messages), 6 and 7 (the jars), 3 (what is never written) -/
structure PR (w0 w : World) (c : Nat → Nat) (lo p bj bk : Nat) (s g : Int) (vC vD : Option Addr) (M : List CkT) (gm : Nat) (Am : Option Addr) (nm cm : Nat) (Ar : Option Addr) (nr cr : Nat) (R : List Int) (i : Nat) : Prop where
  blk : Blk w p 71 (pairL vC vD bj bk Am nm cm Ar nr cr)
  cp : c p = 4
  jar : Blk w bj 84 (jarL s 2 g)
  cj : c bj = 6
  kar : Blk w bk 89 (jarL s 2 g)
  ck : c bk = 7
  mn : M.length = nm
  row : Rw w 1 gm [p] Am nm cm (M.map ckV)
  gml : gm < w.heap.size
  gmc : gm = p ∨ c gm = 5
  me : ∀ t ∈ M, Ow w lo (some ⟨t.1, 0, none⟩) t.2.1 t.2.2 ∧ c t.1 = 3 ∧ t.2.2.length ≤ 1000000
  rn : R.length = nr
  r : Ow w lo Ar cr R
  rc : ∀ g, Ar = some ⟨g, 0, none⟩ → c g = 3
  rm : nr ≤ 1000000
  rnd : Rnd w
  bl : Below lo w0 w
  lo0 : 0 < lo
  los : lo ≤ w.heap.size
  low : ∀ x, x < lo → c x = 3
  gg : 1 ≤ g ∧ g ≤ i + 1
  mi : nm ≤ i
section
variable {w0 w w' : World} {c d : Nat → Nat} {lo p bj bk gm nm cm nr cr i a : Nat} {s g : Int} {vC vD Am Ar : Option Addr} {M : List CkT} {R : List Int}
theorem ow_gw {l : List Int} {A : Option Addr} {q : Nat} (h : Ow w lo A q l) (g : Gw a w c w' d) (hc : ∀ x, A = some ⟨x, 0, none⟩ → c x ≠ a) : Ow w' lo A q l := by
  rcases h.form with ⟨rfl, rfl, rfl⟩ | ⟨x, rfl, h1, h2⟩
  · exact Ow.nil _ _
  · exact (Ck.kp (t := (x, q, l)) (G := []) (G' := []) ⟨h, by simp⟩ g.kp (oth_not (hc x rfl)) (by simp)).1
theorem gw_bl (g : Gw a w c w' d) (h : Below lo w0 w) (hs : lo ≤ w.heap.size) (hl : ∀ x, x < lo → c x = 3) (ha : a ≠ 3) : Below lo w0 w' :=
  g.kp.toBelow h hs fun x hx => Nat.le_of_not_lt fun hlt => oth_not (w := w) (by rw [hl x hlt]; exact Ne.symm ha) hx
theorem PR.gw (h : PR w0 w c lo p bj bk s g vC vD M gm Am nm cm Ar nr cr R i) (gw : Gw a w c w' d) (ha : a < 3) : PR w0 w' d lo p bj bk s g vC vD M gm Am nm cm Ar nr cr R i where
  blk := gw.blk h.blk (by rw [h.cp]; omega)
  cp := gw.colN h.blk.lt h.cp
  jar := gw.blk h.jar (by rw [h.cj]; omega)
  cj := gw.colN h.jar.lt h.cj
  kar := gw.blk h.kar (by rw [h.ck]; omega)
  ck := gw.colN h.kar.lt h.ck
  mn := h.mn
  row := h.row.kp gw.kp (by omega) fun _ hg => oth_not (by
    rcases h.gmc with e | e
    · exact absurd (by simp [e]) hg
    · rw [e]; omega)
  gml := Nat.lt_of_lt_of_le h.gml gw.size
  gmc := h.gmc.imp id fun e => gw.colN h.gml e
  me := fun t ht => ⟨ow_gw (h.me t ht).1 gw (fun x e => by cases e; rw [(h.me t ht).2.1]; omega), gw.colN ((h.me t ht).1.blt t.1 rfl).2 (h.me t ht).2.1, (h.me t ht).2.2⟩
  rn := h.rn
  r := ow_gw h.r gw (fun x e => by rw [h.rc x e]; omega)
  rc := fun x e => gw.colN (h.r.blt x e).2 (h.rc x e)
  rm := h.rm
  rnd := gw.kp.rnd h.rnd (oth_not (by rw [h.low 0 h.lo0]; omega))
  bl := gw_bl gw h.bl h.los h.low (by omega)
  lo0 := h.lo0
  los := Nat.le_trans h.los gw.size
  low := fun x hx => gw.colN (Nat.lt_of_lt_of_le hx h.los) (h.low x hx)
  gg := h.gg
  mi := h.mi
theorem PR.below (h : PR w0 w c lo p bj bk s g vC vD M gm Am nm cm Ar nr cr R i) (hb : Below w.heap.size w w') (n : Nat) : PR w0 w' (rcl w n c) lo p bj bk s g vC vD M gm Am nm cm Ar nr cr R i :=
  h.gw (a := 0) (Gw.of_below hb (fun _ q => rcl_old q)) (by omega)
set_option maxRecDepth 100000 in
set_option maxHeartbeats 16000000 in
theorem pair_accept {mu : Bool} {k0 k1 k2 k3 N : Int} {CK I : List (List Int)} (h : PR w0 w c lo p bj bk s g vC vD M gm Am nm cm Ar nr cr R i) (hA : PA mu w c lo vC k0 k1 k2 k3 CK N I) (hB : PB mu w c lo vD k0 k1 k2 k3 CK N I) (hk2 : U64 k2) (hk3 : U64 k3) (h8 : CK.length ≤ 8) (hI8 : I.length ≤ 8)
    (A : Option Addr) (n ca : Nat) (X : List Int) (hn : X.length = n) (hX : Bs w 0 w.heap.size A X) (hcol : ∀ g o s, A = some ⟨g, o, s⟩ → 0 < X.length → c g = 3) (hnc : n ≤ ca) (hc : ca ≤ 9223372036854775807) (hm : n ≤ 1000000) :
    Calls Tryd.prog 55 #[.pointer (some ⟨p, 0, none⟩), .slice A n ca] w fun e w' => e = .returned (.bool true) ∧ ∃ d CK' I', PR w0 w' d lo p bj bk s g vC vD M gm Am nm cm Ar nr cr R i ∧ PA mu w' d lo vC k0 k1 k2 k3 CK' N I' ∧ PB mu w' d lo vD k0 k1 k2 k3 CK' N I' ∧ CK'.length ≤ 8 ∧ I'.length ≤ 8 := by
  have hP := pacc A n ca X hA hk2 hk3 h.rnd h8 hI8 hn hX hnc hc hm
  have hQ := fun (W : World) (e : Nat → Nat) (hB : PB mu W e lo vD k0 k1 k2 k3 CK N I) hX => pracc A n ca X hB hk2 hk3 h8 hI8 hn hX hnc hc hm
  have hC8 := aC_len mu k2 k3 I X h8
  have hJ8 := aI_len mu k2 k3 I X hI8
  obtain ⟨l, v, m, st, po, pr, rd, rp, id, ref, org, rec, xmt, hV⟩ := aV_form mu k2 k3 I X
  rw [hV] at hP hQ
  generalize aC mu k2 k3 I X CK = CK' at *
  generalize aI mu k2 k3 I X = I' at *
  generalize aE mu k2 k3 I X = E at *
  generalize aL mu k2 k3 I X = L at *
  clear hV
  have hp := h.blk
  have HN := Lib.hid hn
  clear hn
  go_enter Tryd.func55, Tryd.ntmps55
  go_wp2_with (first
    | (refine wpl_loadf (by rfl) 68 _ (by rfl) p 1 (by rfl) _ _ hp3 _ rfl _ Tryd.underlying68 rfl ?_)
    | (refine wpl_loadf (by rfl) 53 _ (by rfl) p 0 (by rfl) _ _ hp _ rfl _ Tryd.underlying53 rfl ?_)
    | (go_at_call 24; ((with_reducible refine hP.mono ?_); rintro e w1 ⟨P1, p1, q1, rfl, hL1, X1, A1, g1⟩))
    | (go_at_call 86; ((with_reducible refine hQ3.mono ?_); rintro e w4 ⟨P4, p4, q4, rfl, hL4, X4, B4, g4⟩))
    | (have hX4 := X4.cap; (refine wpl_alloc (by rfl) 27 (by rfl) (.agg (zN).toArray) (zN) zeroNtp rfl ?_; intro w5 T5 s5 b5))
    | ((refine wpl_alloc (by rfl) 27 (by rfl) (.agg (zN).toArray) (zN) zeroNtp rfl ?_; intro w2 T2 s2 b2))
    | ((refine wpl_store (by rfl) 27 _ _ (by rfl) w4.heap.size (by rfl) _ (by rfl) _ rfl 27 _ T5 (by rfl) _ sizeNtp (by rfl) (by simp [Value.oneCell']) ?_; intro w6 T6 s6 g6);
        (have h4 := h3.gw g4 (by omega));
        (have A4 := A3.gw g4 (by omega));
        (have T4 := g4.blk T3 (by rw [ct3]; omega));
        (have XL4 := XL3.keep fun b q1 q2 => g4.block b q2 (cl3 b q1));
        (have z4 := g4.size);
        (have b46 : Below w4.heap.size w4 w6 := b5.trans (g6.below b5.size (Nat.le_refl _)));
        (have hd6 : Gw 0 w4 (rcl w3 2 c3) w6 (rcl w4 3 (rcl w3 2 c3)) := Gw.of_below b46 (fun _ q => rcl_old q));
        (have h6 := h4.gw hd6 (by omega));
        (have A6 := A4.gw hd6 (by omega));
        (have B6 := B4.gw hd6 (by omega));
        (have T46 := T4.below b46 T4.lt);
        (have XL6 := XL4.below b46 (Nat.le_refl _));
        (have X6 := X4.below b46 (Nat.le_refl _));
        (obtain rfl : p4 = p1 := hL4.symm.trans hL1);
        (have hcap := XL6.cap);
        (have hcap' := X6.cap);
        (rw [hL1] at hcap hcap');
        (have hS := same_eq P1 P4 p4 q1 q4 L w6 hL1 XL6.xs X6.xs hcap.1 hcap.2.1 hcap'.1 hcap'.2.1);
        (have HL4 := Lib.hid hL4);
        (clear hQ3 h3 h4 A3 A4 B3 B4 T3 T4 XL3 XL4 X3 X4 XL6 X6 hd6 hcap hcap' b5 g6 T5 hL4 hL1))
    | ((refine wpl_store (by rfl) 27 _ _ (by rfl) w1.heap.size (by rfl) _ (by rfl) _ rfl 27 _ T2 (by rfl) _ sizeNtp (by rfl) (by simp [Value.oneCell']) ?_; intro w3 T3 s3 g3);
        (have h1 := h.gw g1 (by omega));
        (have B1 := hB.gw g1 (by omega));
        (have X1' := g1.bs hX (Nat.le_refl _) (fun x o s e hl => by rw [hcol x o s e hl]; omega));
        (obtain ⟨c1, hc1⟩ : ∃ c1, rcl w 1 c = c1 := ⟨_, rfl⟩);
        (have hn1 : ∀ x, w.heap.size ≤ x → c1 x = 1 := fun x hx => by rw [← hc1]; exact rcl_new hx);
        (rw [hc1] at h1 A1 B1 g1);
        (have z1 := g1.size);
        (have b13 : Below w1.heap.size w1 w3 := b2.trans (g3.below b2.size (Nat.le_refl _)));
        (have hd3 : Gw 0 w1 c1 w3 (rcl w1 3 c1) := Gw.of_below b13 (fun _ q => rcl_old q));
        (have h3 := h1.gw hd3 (by omega));
        (have A3 := A1.gw hd3 (by omega));
        (have B3 := B1.gw hd3 (by omega));
        (have X3 := (X1'.below b13 z1).wide (Nat.le_refl _) (Nat.le_trans z1 b13.size));
        (have XL3 := X1.below b13 (Nat.le_refl _));
        (have ct3 : rcl w1 3 c1 w1.heap.size = 3 := rcl_new (Nat.le_refl _));
        (have cl3 : ∀ x, w.heap.size ≤ x → rcl w1 3 c1 x ≠ 2 := fun x hx => by
            rcases Nat.lt_or_ge x w1.heap.size with q | q
            · rw [rcl_old q, hn1 x hx]; omega
            · rw [rcl_new q]; omega);
        (generalize rcl w1 3 c1 = c3 at *);
        (have hp3 := h3.blk);
        (have hQ3 := hQ w3 c3 B3 X3);
        (have z3 := b13.size);
        (have zT := T3.lt);
        (clear hP hQ h h1 A1 B1 hA hB X1 X1' T2 hp hX hcol b2 g3 hd3))
    | (refine wpl_load (by rfl) 27 _ (by rfl) w1.heap.size (by rfl) 27 _ T46 _ Tryd.underlying27 rfl _ sizeNtp (by rfl) ?_)
    | (refine wpl_load (by rfl) 27 _ (by rfl) w4.heap.size (by rfl) 27 _ T6 _ Tryd.underlying27 rfl _ sizeNtp (by rfl) ?_)
    | (go_at_call 87; ((with_reducible refine hS.mono ?_); rintro e w7 ⟨rfl, b7⟩)))
  go_ret
  have hd7 : Gw 0 w6 (rcl w4 3 (rcl w3 2 c3)) w7 (rcl w6 3 (rcl w4 3 (rcl w3 2 c3))) := Gw.of_below b7 (fun _ q => rcl_old q)
  exact ⟨rfl, _, CK', I', h6.gw hd7 (by omega), A6.gw hd7 (by omega), B6.gw hd7 (by omega), hC8, hJ8⟩
end
end Go.Proofs.YtachhbbofemfdaaDoor
namespace Go.Proofs.YtachhbbofemfdaaDoor
open Go.RowKit
set_option linter.unusedSimpArgs false
set_option linter.unusedVariables false
set_option maxRecDepth 100000
section
variable {w0 w w' : World} {c d : Nat → Nat} {lo p bj bk gm nm cm nr cr i a : Nat} {s g : Int} {vC vD Am Ar : Option Addr} {M : List CkT} {R : List Int}
theorem sizeSl1 : (Tryd.prog.info? 23).map (·.size) = some 1 := by kernel_rfl
/-- the last reply is written -/
theorem PR.setR {Ar' : Option Addr} {nr' cr' : Nat} {R' : List Int} (h : PR w0 w c lo p bj bk s g vC vD M gm Am nm cm Ar nr cr R i) (gb : But p w w') (hB : Blk w' p 71 (pairL vC vD bj bk Am nm cm Ar' nr' cr')) (hr : Ow w lo Ar' cr' R') (hc : ∀ g, Ar' = some ⟨g, 0, none⟩ → c g = 3) (hn : R'.length = nr') (hm : nr' ≤ 1000000) :
    PR w0 w' c lo p bj bk s g vC vD M gm Am nm cm Ar' nr' cr' R' i :=
  have gw : Gw 4 w c w' c := Gw.of_but gb (.inr h.cp)
  { blk := hB
    cp := h.cp
    jar := gw.blk h.jar (by rw [h.cj]; omega)
    cj := h.cj
    kar := gw.blk h.kar (by rw [h.ck]; omega)
    ck := h.ck
    mn := h.mn
    row := h.row.kp (Kp.of_but (G := [p]) gb (.inr (by simp))) (by omega) fun _ hg => hg
    gml := Nat.lt_of_lt_of_le h.gml gw.size
    gmc := h.gmc
    me := fun t ht => ⟨ow_gw (h.me t ht).1 gw (fun x e => by cases e; rw [(h.me t ht).2.1]; omega), (h.me t ht).2⟩
    rn := hn
    r := ow_gw hr gw (fun x e => by rw [hc x e]; omega)
    rc := hc
    rm := hm
    rnd := gw.kp.rnd h.rnd (oth_not (by rw [h.low 0 h.lo0]; omega))
    bl := gw_bl gw h.bl h.los h.low (by omega)
    lo0 := h.lo0
    los := Nat.le_trans h.los gw.size
    low := h.low
    gg := h.gg
    mi := h.mi }
end
/-- the whole state behind one name: i calls were made -/
def PX (mu : Bool) (w0 w : World) (lo p : Nat) (s k0 k1 k2 k3 : Int) (vC vD : Option Addr) (i : Nat) : Prop :=
  ∃ (c : Nat → Nat) (bj bk : Nat) (g : Int) (M : List CkT) (gm : Nat) (Am : Option Addr) (nm cm : Nat) (Ar : Option Addr) (nr cr : Nat) (R : List Int) (N : Int) (CK I : List (List Int)),
    PR w0 w c lo p bj bk s g vC vD M gm Am nm cm Ar nr cr R i ∧ PA mu w c lo vC k0 k1 k2 k3 CK N I ∧ PB mu w c lo vD k0 k1 k2 k3 CK N I ∧ CK.length ≤ 8 ∧ I.length ≤ 8 ∧ 0 ≤ N ∧ N ≤ i
theorem PX.mono {vC vD : Option Addr} {mu : Bool} {w0 w : World} {lo p i j : Nat} {s k0 k1 k2 k3 : Int} (h : PX mu w0 w lo p s k0 k1 k2 k3 vC vD i) (hj : i ≤ j) : PX mu w0 w lo p s k0 k1 k2 k3 vC vD j := by
  obtain ⟨c, bj, bk, g, M, gm, Am, nm, cm, Ar, nr, cr, R, N, CK, I, h, h1, h2, h3, h4, h5, h6⟩ := h
  exact ⟨c, bj, bk, g, M, gm, Am, nm, cm, Ar, nr, cr, R, N, CK, I, { h with gg := ⟨h.gg.1, by have := h.gg.2; omega⟩, mi := Nat.le_trans h.mi hj }, h1, h2, h3, h4, h5, by omega⟩
theorem PX.below {vC vD : Option Addr} {mu : Bool} {w0 w w' : World} {lo p i : Nat} {s k0 k1 k2 k3 : Int} (h : PX mu w0 w lo p s k0 k1 k2 k3 vC vD i) (hb : Below w.heap.size w w') : PX mu w0 w' lo p s k0 k1 k2 k3 vC vD i := by
  obtain ⟨c, bj, bk, g, M, gm, Am, nm, cm, Ar, nr, cr, R, N, CK, I, h, h1, h2, h3⟩ := h
  have gw : Gw 0 w c w' (rcl w 3 c) := Gw.of_below hb (fun _ q => rcl_old q)
  exact ⟨_, bj, bk, g, M, gm, Am, nm, cm, Ar, nr, cr, R, N, CK, I, h.gw gw (by omega), h1.gw gw (by omega), h2.gw gw (by omega), h3⟩
theorem wrap_idx (n : Int) {k : Nat} (hk : 0 < k) (hk2 : k ≤ 1000000) : ∃ q : Nat, q < k ∧ n % 18446744073709551616 % (k : Int) = q := by
  have h1 := Int.emod_nonneg (n % 18446744073709551616) (b := (k : Int)) (by omega)
  have h2 := Int.emod_lt_of_pos (n % 18446744073709551616) (b := (k : Int)) (by omega)
  exact ⟨(n % 18446744073709551616 % (k : Int)).toNat, by omega, by omega⟩
set_option maxRecDepth 100000 in
set_option maxHeartbeats 16000000 in
theorem pair_answer {vC vD : Option Addr} {mu : Bool} {w0 w : World} {lo p i : Nat} {s k0 k1 k2 k3 : Int} (kd n l v m st po pr rd rp id ref org rec xmt nonce : Int) (Aa : Option Addr) (na ca : Nat) (Ba : Option Addr) (nb cb : Nat) (L : Flds) (h : PX mu w0 w lo p s k0 k1 k2 k3 vC vD i) (hs : U64 s) (hk0 : U64 k0) (hk1 : U64 k1) (hk2 : U64 k2) (hk3 : U64 k3) (h6 : 0 ≤ rd ∧ rd ≤ 4294967295) (h7 : 0 ≤ rp ∧ rp ≤ 4294967295) (h8' : 0 ≤ id ∧ id ≤ 4294967295) (h9 : 0 ≤ ref ∧ ref ≤ 18446744073709551615) (h10 : 0 ≤ org ∧ org ≤ 18446744073709551615) (h11 : 0 ≤ rec ∧ rec ≤ 18446744073709551615) (h12 : 0 ≤ xmt ∧ xmt ≤ 18446744073709551615) (hno : U64 nonce) (hi : i ≤ 1000)
    (hXs : Xs w w.heap.size Aa L) (hL : L.length = na) (hac : na ≤ ca) (hac2 : ca ≤ 9223372036854775807) (han : Aa = none → na = 0) (hdd : ∀ k, k < na → (dtL L k).length ≤ 300) :
    Calls Tryd.prog 54 #[.pointer (some ⟨p, 0, none⟩), .agg (opC kd n l v m st po pr rd rp id ref org rec xmt nonce Aa na ca Ba nb cb).toArray] w fun e w' => e = .returned (.bool true) ∧ PX mu w0 w' lo p s k0 k1 k2 k3 vC vD i := by
  have hPX := h
  obtain ⟨c, bj, bk, g, M, gm, Am, nm, cm, Ar, nr, cr, R, N, CK, I, h, hA, hB, h8, hI8, hN⟩ := h
  have hp := h.blk
  by_cases h0 : nm = 0
  · have d0 : ((nm : Int) == 0) = true := by simpa using h0
    clear h0
    go_enter Tryd.func54, Tryd.ntmps54
    go_wp2_with (first
      | ((refine wpl_box (by rfl) 45 _ (by rfl) _ (opC kd n l v m st po pr rd rp id ref org rec xmt nonce Aa na ca Ba nb cb) (by rfl) rfl ?_; intro w1 O1 s1 b1); (have hp1 := hp.below b1 hp.lt))
      | (refine wpl_loadf (by rfl) 51 _ (by rfl) p 4 (by rfl) _ _ hp1 _ rfl _ Tryd.underlying51 rfl ?_))
    go_ret
    exact ⟨rfl, hPX.below b1⟩
  · have d0 : ((nm : Int) == 0) = false := by simpa using h0
    have hmi := h.mi
    obtain ⟨k, hk, ek⟩ := wrap_idx n (k := nm) (by omega) (by omega)
    clear hPX
    obtain ⟨t, ht⟩ : ∃ t : CkT, M[k]? = some t := ⟨_, List.getElem?_eq_getElem (by have := h.mn; omega)⟩
    obtain ⟨hO0, hct, hm0⟩ := h.me t (List.mem_of_getElem? ht)
    have hrow := h.row
    obtain ⟨o, rfl, hat⟩ := hrow.at (k := k) hk (by omega)
    have hcM0 : w.cell? ⟨gm, o + k, none⟩ = some (.slice (some ⟨t.1, 0, none⟩) t.2.2.length t.2.1) := by
      have := hat 0 (by omega)
      simpa [ht] using this
    clear hat hrow ht
    obtain ⟨bx, cx, X⟩ := t
    dsimp only at hO0 hct hm0 hcM0
    have hg : Gn g := ⟨by have := h.gg.1; omega, by have := h.gg.2; omega⟩
    obtain ⟨l2, v2, m2, st2, po2, pr2, rd2, rp2, id2, ref2, org2, rec2, xmt2, y0, y1, y2, y3, E2, ID, ⟨hO, hP⟩, ⟨u0, u1, u2, u3⟩, hIb, hI16⟩ := open_both s 2 g X hs hg ⟨by omega, by omega⟩ hO0.1
    obtain ⟨E3, M3, ⟨hRP, hRQ⟩, hM3⟩ := reply_both s 2 g y0 y1 y2 y3 l v m st po pr rd rp id ref org rec xmt nonce L ID h6 h7 h8' h9 h10 h11 h12 hs hg hno u0 u1 u2 u3
    obtain ⟨nx, hnx⟩ : ∃ nx, X.length = nx := ⟨_, rfl⟩
    obtain ⟨NI, hNI⟩ : ∃ NI, ID.length = NI := ⟨_, rfl⟩
    obtain ⟨NM, hNM⟩ : ∃ NM, M3.length = NM := ⟨_, rfl⟩
    have hcap0 := hO0.cap_le
    have hcap1 := hO0.cap_max
    rw [hnx] at hcM0 hm0 hcap0
    have HX := Lib.hid hnx
    have HI := Lib.hid hNI
    have HM := Lib.hid hNM
    have HL := Lib.hid hL
    rw [hNI] at hO hP hI16
    rw [hNM] at hRP hRQ hM3
    have hIe := eqB_self ID
    have hMe := eqB_self M3
    have hke := key_eq
    have hO' := fun W hJ hR hB => hO bj (some ⟨bx, 0, none⟩) nx cx W hJ hR hnx hB hcap0 hcap1 hm0
    have hP' := fun W hJ hB => hP bk (some ⟨bx, 0, none⟩) nx cx W hJ hnx hB hcap0 hcap1 hm0
    have hw0 : w.heap.size ≠ p := Nat.ne_of_gt hp.lt
    clear hnx hNI hNM hL hO hP
    go_enter Tryd.func54, Tryd.ntmps54
    go_wp2_with (first
      | ((refine wpl_box (by rfl) 45 _ (by rfl) _ (opC kd n l v m st po pr rd rp id ref org rec xmt nonce Aa na ca Ba nb cb) (by rfl) rfl ?_; intro wa Oa sa ba); (have hpa := hp.below ba hp.lt))
      | (refine wpl_loadf (by rfl) 51 _ (by rfl) p 4 (by rfl) _ _ hpa _ rfl _ Tryd.underlying51 rfl ?_))
    have hc4 := hpa.cell (i := 4) rfl
    have hcO := Oa.cell (i := 1) rfl
    have hcM := kept_cell ba hcM0 (World.block_lt_of_cell? w _ hcM0)
    have hk0' : (0 : Int) ≤ k := by omega
    have hk1' : (k : Int) < nm := by omega
    have hwn : IntKind.u64.wrap (nm : Int) = nm := by rw [IntKind.wrap_u64]; omega
    have hwk : IntKind.i64.wrap (k : Int) = k := by rw [IntKind.wrap_i64]; omega
    have hek' : (IntKind.u64.wrap n).tmod nm = k := by rw [IntKind.wrap_u64, Int.tmod_eq_emod_of_nonneg (by omega)]; exact ek
    clear ek
    refine wp_region_det (fun y => y = wa.drew) 18 (by kernel_rfl) rfl (by rfl) ?_
    simp only [List.replicate]
    (refine wpD_t 0 _ (by exact gE rfl) (by kernel_rfl) (by rfl) (YS.of_value (by intro _ h; (try dsimp only at h); go_simp; first | done | with_reducible rfl)) ?_; (try simp only [Act.put, zs0, zs1, zs2]))
    (refine wpD_t 1 _ (by exact gE rfl) (by kernel_rfl) (by rfl) (YS.of_value (by intro _ h; (try dsimp only at h); go_simp; first | done | with_reducible rfl)) ?_; (try simp only [Act.put, zs0, zs1, zs2]))
    (refine wpD_t 2 _ (by exact gE rfl) (by kernel_rfl) (by rfl) (YS.of_value (by intro _ h; (try dsimp only at h); go_simp; first | done | with_reducible rfl)) ?_; (try simp only [Act.put, zs0, zs1, zs2]))
    (refine wpD_t 3 _ (by exact gE rfl) (by kernel_rfl) (by rfl) (YS.of_value (by intro _ h; (try dsimp only at h); go_simp; first | done | with_reducible rfl)) ?_; (try simp only [Act.put, zs0, zs1, zs2]))
    (refine wpD_t 4 _ (by exact gE rfl) (by kernel_rfl) (by rfl) (YS.of_value (by intro _ h; (try dsimp only at h); go_simp; first | done | with_reducible rfl)) ?_; (try simp only [Act.put, zs0, zs1, zs2]))
    (refine wpD_t 5 _ (by exact gE rfl) (by kernel_rfl) (by rfl) (YS.of_value (by intro _ h; (try dsimp only at h); go_simp; first | done | with_reducible rfl)) ?_; (try simp only [Act.put, zs0, zs1, zs2]))
    (refine wpD_t 6 _ (by exact gE rfl) (by kernel_rfl) (by rfl) (YS.of_value (by intro _ h; (try dsimp only at h); go_simp; first | done | with_reducible rfl)) ?_; (try simp only [Act.put, zs0, zs1, zs2]))
    (refine wpD_t 7 _ (by exact gE rfl) (by kernel_rfl) (by rfl) (YS.of_value (by intro _ h; (try dsimp only at h); go_simp; first | done | with_reducible rfl)) ?_; (try simp only [Act.put, zs0, zs1, zs2]))
    (refine wpD_t 8 _ (by exact gE rfl) (by kernel_rfl) (by rfl) (YS.of_value (by intro _ h; (try dsimp only at h); go_simp; first | done | with_reducible rfl)) ?_; (try simp only [Act.put, zs0, zs1, zs2]))
    (refine wpD_t 9 _ (by exact gE rfl) (by kernel_rfl) (by rfl) (YS.of_value (by intro _ h; (try dsimp only at h); go_simp; first | done | with_reducible rfl)) ?_; (try simp only [Act.put, zs0, zs1, zs2]))
    (refine wpD_t 10 _ (by exact gE rfl) (by kernel_rfl) (by rfl) (YS.of_value (by intro _ h; (try dsimp only at h); go_simp; first | done | with_reducible rfl)) ?_; (try simp only [Act.put, zs0, zs1, zs2]))
    (refine wpD_t 11 _ (by exact gE rfl) (by kernel_rfl) (by rfl) (YS.of_value (by intro _ h; (try dsimp only at h); go_simp; first | done | with_reducible rfl)) ?_; (try simp only [Act.put, zs0, zs1, zs2]))
    (refine wpD_t 12 _ (by exact gE rfl) (by kernel_rfl) (by rfl) (YS.of_value (by intro _ h; (try dsimp only at h); go_simp; first | done | with_reducible rfl)) ?_; (try simp only [Act.put, zs0, zs1, zs2]))
    (refine wpD_t 13 _ (by exact gE rfl) (by kernel_rfl) (by rfl) (YS.of_value (by intro _ h; (try dsimp only at h); go_simp; first | done | with_reducible rfl)) ?_; (try simp only [Act.put, zs0, zs1, zs2]))
    (refine wpD_t 14 _ (by exact gE rfl) (by kernel_rfl) (by rfl) (YS.of_value (by intro _ h; (try dsimp only at h); go_simp; first | done | with_reducible rfl)) ?_; (try simp only [Act.put, zs0, zs1, zs2]))
    (refine wpD_t 15 _ (by exact gE rfl) (by kernel_rfl) (by rfl) (YS.of_value (by intro _ h; (try dsimp only at h); go_simp; first | done | with_reducible rfl)) ?_; (try simp only [Act.put, zs0, zs1, zs2]))
    (refine wpD_t 16 _ (by exact gE rfl) (by kernel_rfl) (by rfl) (YS.of_value (by intro _ h; (try dsimp only at h); go_simp; first | done | with_reducible rfl)) ?_; (try simp only [Act.put, zs0, zs1, zs2]))
    (refine wpD_t 17 _ (by exact gE rfl) (by kernel_rfl) (by rfl) (YS.of_value (by intro _ h; (try dsimp only at h); go_simp; first | done | with_reducible rfl)) ?_; (try simp only [Act.put, zs0, zs1, zs2]))
    refine wpD_done (by kernel_rfl) ?_ _
    intro w1 hw1
    have b1 : Below w.heap.size w w1 := by rw [hw1]; exact ba.drew
    have hp1 : Blk w1 p 71 (pairL vC vD bj bk (some ⟨gm, o, none⟩) nm cm Ar nr cr) := by rw [hw1]; exact hpa.drew
    have o1 : Blk w1 w.heap.size 45 (opC kd n l v m st po pr rd rp id ref org rec xmt nonce Aa na ca Ba nb cb) := by rw [hw1]; exact Oa.drew
    clear hw1 ba hpa Oa sa hc4 hcO hcM hk0' hk1' hwn hwk hek' hcM0
    have J1 := h.jar.below b1 h.jar.lt
    have R1 := h.rnd.below b1 h.rnd.lt
    have X1 := (hO0.bs.below b1 (Nat.le_refl _)).wide (Nat.zero_le lo) b1.size
    have z1 : w.heap.size < w1.heap.size := o1.lt
    clear hO0
    go_wp2_with (first
      | (refine wpl_loadf (by rfl) 35 _ (by rfl) p 2 (by rfl) _ _ hp1 _ rfl _ Tryd.underlying35 rfl ?_)
      | (refine wpl_loadf (by rfl) 38 _ (by rfl) p 3 (by rfl) _ _ hp6 _ rfl _ Tryd.underlying38 rfl ?_)
      | (go_at_call 11; ((with_reducible refine (hO' _ J1 R1 X1).mono ?_); rintro e w2 ⟨A2, c2, rfl, O2, b2⟩; (have B2 := b1.trans (b2.mono b1.size))))
      | ((refine wpl_alloc (by rfl) 27 (by rfl) (.agg (zN).toArray) (zN) zeroNtp rfl ?_; intro w9 Q9 s9 b9); (have P9 := P8.below b9 P8.lt); (have T9 := T8.below b9 T8.lt); (have B9 := B8.trans (b9.mono B8.size)))
      | ((refine wpl_alloc (by rfl) 27 (by rfl) (.agg (zN).toArray) (zN) zeroNtp rfl ?_; intro w3 P3 s3 b3); (have B3 := B2.trans (b3.mono B2.size)))
      | ((refine wpl_alloc (by rfl) 31 (by rfl) (.agg (tktL none 0 0 0 0 0 0).toArray) (tktL none 0 0 0 0 0 0) zeroTk rfl ?_; intro w10 U10 s10 b10); (have P10 := P9.below b10 P9.lt); (have T10 := T9.below b10 T9.lt); (have Q10 := Q9.below b10 Q9.lt); (have B10 := B9.trans (b10.mono B9.size)))
      | ((refine wpl_alloc (by rfl) 31 (by rfl) (.agg (tktL none 0 0 0 0 0 0).toArray) (tktL none 0 0 0 0 0 0) zeroTk rfl ?_; intro w4 T4 s4 b4); (have P4 := P3.below b4 P3.lt); (have B4 := B3.trans (b4.mono B3.size)))
      | ((refine wpl_store (by rfl) 27 _ _ (by rfl) w2.heap.size (by rfl) _ (by rfl) _ rfl 27 _ P4 (by rfl) _ sizeNtp (by rfl) (by simp [Value.oneCell']) ?_; intro w5 P5 s5 g5); (have T5 := T4.but g5 (Nat.ne_of_gt P3.lt)); (have B5 := B4.trans (g5.below B4.size B2.size)))
      | ((refine wpl_store (by rfl) 31 _ _ (by rfl) w3.heap.size (by rfl) _ (by rfl) _ rfl 31 _ T5 (by rfl) _ sizeTk (by rfl) (by simp [Value.oneCell']) ?_; intro w6 T6 s6 g6); (have P6 := P5.but g6 (Nat.ne_of_lt P3.lt)); (have B6 := B5.trans (g6.below B5.size B3.size)); (have b26 : Below w2.heap.size w2 w6 := ((b3.trans (b4.mono b3.size)).trans (But.below (g := w2.heap.size) g5 (Nat.le_trans b3.size b4.size) (Nat.le_refl _))).trans (But.below (g := w3.heap.size) g6 (Nat.le_trans (Nat.le_trans b3.size b4.size) s5) b3.size)); (have O6 := O2.below b26 (Nat.le_refl _)); (have hp6 := hp.below B6 hp.lt); (have hP6 := hP' w6 (h.kar.below B6 h.kar.lt) ((X1.below (b2.trans (b26.mono b2.size)) (Nat.le_refl _)).wide (Nat.le_refl _) (Nat.le_trans b2.size b26.size))))
      | (go_at_call 13; ((with_reducible refine hP6.mono ?_); rintro e w8 ⟨A8, c8, rfl, O8, b8⟩; (have P8 := P6.below b8 P6.lt); (have T8 := T6.below b8 T6.lt); (have O7' := O6.below b8 (Nat.le_refl _)); (have B8 := B6.trans (b8.mono B6.size))))
      | ((refine wpl_store (by rfl) 27 _ _ (by rfl) w8.heap.size (by rfl) _ (by rfl) _ rfl 27 _ Q10 (by rfl) _ sizeNtp (by rfl) (by simp [Value.oneCell']) ?_; intro w11 Q11 s11 g11); (have P11 := P10.but g11 (Nat.ne_of_lt P8.lt)); (have T11 := T10.but g11 (Nat.ne_of_lt T8.lt)); (have U11 := U10.but g11 (Nat.ne_of_gt Q9.lt)); (have B11 := B10.trans (g11.below B10.size B8.size)))
      | ((refine wpl_store (by rfl) 31 _ _ (by rfl) w9.heap.size (by rfl) _ (by rfl) _ rfl 31 _ U11 (by rfl) _ sizeTk (by rfl) (by simp [Value.oneCell']) ?_; intro w12 U12 s12 g12); (have P12 := P11.but g12 (Nat.ne_of_lt P9.lt)); (have T12 := T11.but g12 (Nat.ne_of_lt T9.lt)); (have Q12 := Q11.but g12 (Nat.ne_of_lt Q9.lt)); (have B12 := B11.trans (g12.below B11.size B9.size)); (have b812 : Below w8.heap.size w8 w12 := ((b9.trans (b10.mono b9.size)).trans (But.below (g := w8.heap.size) g11 (Nat.le_trans b9.size b10.size) (Nat.le_refl _))).trans (But.below (g := w9.heap.size) g12 (Nat.le_trans (Nat.le_trans b9.size b10.size) s11) b9.size)); (have O12 := O7'.below b812 (Nat.le_refl _)); (have O12' := O8.below b812 (Nat.le_refl _)))
      | (refine wpl_load (by rfl) 27 _ (by rfl) w2.heap.size (by rfl) 27 _ P12 _ Tryd.underlying27 rfl _ sizeNtp (by rfl) ?_)
      | (refine wpl_load (by rfl) 27 _ (by rfl) w8.heap.size (by rfl) 27 _ Q12 _ Tryd.underlying27 rfl _ sizeNtp (by rfl) ?_)
      | (refine wpl_loadf (by rfl) 23 _ (by rfl) w3.heap.size 0 (by rfl) _ _ T12 _ rfl _ Tryd.underlying23 rfl ?_)
      | (refine wpl_loadf (by rfl) 23 _ (by rfl) w9.heap.size 0 (by rfl) _ _ U12 _ rfl _ Tryd.underlying23 rfl ?_)
      | (go_at_call 15; (have hBE := bequal_any A2 A8 NI NI c2 c8 _ _ _ _ ID ID w12 HI.out HI.out O12.bs O12'.bs); (rw [hIe] at hBE); ((with_reducible refine hBE.mono ?_); rintro e _ ⟨rfl, rfl⟩))
      | ((refine wpl_loadm (by rfl) 29 _ (by rfl) w3.heap.size 1 (by rfl) _ _ T12 _ _ Tryd.underlying29 rfl _ sizeKey (by rfl) (by rfl) ?_))
      | ((refine wpl_loadm (by rfl) 29 _ (by rfl) w9.heap.size 1 (by rfl) _ _ U12 _ _ Tryd.underlying29 rfl _ sizeKey (by rfl) (by rfl) ?_))
      | ((refine wpl_loadm (by rfl) 29 _ (by rfl) w3.heap.size 3 (by rfl) _ _ T12 _ _ Tryd.underlying29 rfl _ sizeKey (by rfl) (by rfl) ?_))
      | ((refine wpl_loadm (by rfl) 29 _ (by rfl) w9.heap.size 3 (by rfl) _ _ U12 _ _ Tryd.underlying29 rfl _ sizeKey (by rfl) (by rfl) ?_)))
    have b112 : Below w1.heap.size w1 w12 := ((b2.trans (b26.mono b2.size)).trans (b8.mono (Nat.le_trans b2.size b26.size))).trans (b812.mono (Nat.le_trans (Nat.le_trans b2.size b26.size) b8.size))
    have o12 := o1.below b112 o1.lt
    have hp12 := hp.below B12 hp.lt
    have hsz : ∀ k, k < na → (dtL L k).length ≤ 140737488351232 := fun k hk => Nat.le_trans (hdd k hk) (by omega)
    have HS := Lib.hid hsz
    have HD := Lib.hid hdd
    have q12 : NI ≤ c2 ∧ c2 ≤ 9223372036854775807 ∧ (A2 = none → NI = 0 ∧ c2 = 0) := ⟨by have := O12.cap_le; rw [HI.out] at this; exact this, O12.cap_max, fun e => by
      rcases O12.form with ⟨_, e1, e2⟩ | ⟨x, e1, _⟩
      · exact ⟨by rw [← HI.out, e1]; rfl, e2⟩
      · rw [e] at e1; cases e1⟩
    have q12' : NI ≤ c8 ∧ c8 ≤ 9223372036854775807 ∧ (A8 = none → NI = 0 ∧ c8 = 0) := ⟨by have := O12'.cap_le; rw [HI.out] at this; exact this, O12'.cap_max, fun e => by
      rcases O12'.form with ⟨_, e1, e2⟩ | ⟨x, e1, _⟩
      · exact ⟨by rw [← HI.out, e1]; rfl, e2⟩
      · rw [e] at e1; cases e1⟩
    have hz12 : w12.drew.heap.size = w12.heap.size := rfl
    have hR8 := hRP bj A2 NI c2 Aa na ca w12.drew (h.jar.below B12 h.jar.lt).drew (h.rnd.below B12 h.rnd.lt).drew HL.out ((hXs.below B12.drew (Nat.le_refl _)).wide B12.size) hac hac2 HS.out han (O12.bs.drew.wide (Nat.zero_le _) (Nat.le_refl _)) HI.out q12.1 q12.2.1 q12.2.2
    rw [hz12] at hR8
    have Ow8 := O12'
    clear hsz hdd hRP hO' hP' hP6 J1 R1 X1 P3 T4 P4 T5 P5 T6 P6 P8 T8 P9 T9 P10 T10 Q9 Q10 U10 P11 T11 Q11 U11 P12 Q12 O2 O6 O7' O8 O12' b2 b3 b4 b8 b9 b10 g5 g6 g11 g12 b26 b812 B2 B3 B4 B5 B6 B8 B9 B10 B11 s3 s4 s5 s6 s9 s10 s11 s12 hp6 hp1 o1 b112 hIe hke
    go_wp2_with fail
    refine wp_region_heldL (fun y => Blk y p 71 (pairL vC vD bj bk (some ⟨gm, o, none⟩) nm cm Ar nr cr) ∧ Blk y w3.heap.size 31 (tktL A2 NI c2 y0 y1 y2 y3) ∧ Blk y w.heap.size 45 (opC kd n l v m st po pr rd rp id ref org rec xmt nonce Aa na ca Ba nb cb) ∧ y.cell? ⟨p, 2, none⟩ = some (.pointer (some ⟨bj, 0, none⟩)) ∧ y.cell? ⟨w.heap.size, 16, none⟩ = some (.slice Aa na ca) ∧ y.cell? ⟨w.heap.size, 15, none⟩ = some (.int .u64 nonce)) 17 (by kernel_rfl) rfl ⟨hp12.drew, T12.drew, o12.drew, hp12.cell rfl, o12.cell rfl, o12.cell rfl⟩ fun hHeld => ?_
    simp only [List.replicate]
    (refine wpH_t 0 _ (by exact gE rfl) (by kernel_rfl) (by intro _ _ _ h; exact h) (Or.inl ⟨by rfl, (by intro _ h; (try dsimp only at h); go_simp; first | done | with_reducible rfl)⟩) (by assumption) ?_; (try simp only [Act.put, zs0, zs1, zs2]))
    (refine wpH_t 1 _ (by exact gE rfl) (by kernel_rfl) (by intro _ _ _ h; exact h) (Or.inl ⟨by rfl, (by intro _ h; (try dsimp only at h); go_simp; first | done | with_reducible rfl)⟩) (by assumption) ?_; (try simp only [Act.put, zs0, zs1, zs2]))
    (refine wpH_t 2 _ (by exact gE rfl) (by kernel_rfl) (by intro _ _ _ h; exact h) (Or.inl ⟨by rfl, (by intro _ h; (try dsimp only at h); go_simp; first | done | with_reducible rfl)⟩) (by assumption) ?_; (try simp only [Act.put, zs0, zs1, zs2]))
    (refine wpH_t 3 _ (by exact gE rfl) (by kernel_rfl) (by intro _ _ _ h; exact h) (Or.inl ⟨by rfl, (by intro _ h; (try dsimp only at h); go_simp; first | done | with_reducible rfl)⟩) (by assumption) ?_; (try simp only [Act.put, zs0, zs1, zs2]))
    refine wpH_t 4 (.agg (tktL A2 NI c2 y0 y1 y2 y3).toArray) (by exact gE rfl) (by kernel_rfl) (by intro _ _ _ h; exact h) (yieldsIf_load_mid (by rfl) 31 _ (by rfl) w3.heap.size 0 (by rfl) (tktL A2 NI c2 y0 y1 y2 y3) _ (fun w' h => h.2.1.range) Tryd.underlying31 rfl sizeTk) (by assumption) ?_
    (try simp only [Act.put, zs0, zs1, zs2])
    (refine wpH_t 5 _ (by exact gE rfl) (by kernel_rfl) (by intro _ _ _ h; exact h) (Or.inl ⟨by rfl, (by intro _ h; (try dsimp only at h); go_simp; first | done | with_reducible rfl)⟩) (by assumption) ?_; (try simp only [Act.put, zs0, zs1, zs2]))
    refine wpH_take (i := 6) (v := .agg ([.int .i64 l, .int .i64 v, .int .i64 m, .int .i64 st, .int .i64 po, .int .i64 pr, .int .u32 rd, .int .u32 rp, .int .u32 id, .int .u64 ref, .int .u64 org, .int .u64 rec, .int .u64 xmt]).toArray) (by exact gE rfl) (by kernel_rfl) (by kernel_rfl) (by kernel_rfl) (by intro _ _ _ h; exact h) (yieldsIf_load_mid (by rfl) 27 _ (by rfl) w.heap.size 2 (by rfl) ([.int .i64 l, .int .i64 v, .int .i64 m, .int .i64 st, .int .i64 po, .int .i64 pr, .int .u32 rd, .int .u32 rp, .int .u32 id, .int .u64 ref, .int .u64 org, .int .u64 rec, .int .u64 xmt]) _ (fun w' h => Blk.mid h.2.2.1 2 [.int .i64 l, .int .i64 v, .int .i64 m, .int .i64 st, .int .i64 po, .int .i64 pr, .int .u32 rd, .int .u32 rp, .int .u32 id, .int .u64 ref, .int .u64 org, .int .u64 rec, .int .u64 xmt] rfl) Tryd.underlying27 rfl sizeNtp) (by assumption) ?_
    (try simp only [Act.put, zs0, zs1, zs2])
    (refine wpH_t 7 _ (by exact gE rfl) (by kernel_rfl) (by intro _ _ _ h; exact h) (Or.inl ⟨by rfl, (by intro _ h; (try dsimp only at h); go_simp; first | done | with_reducible rfl)⟩) (by assumption) ?_; (try simp only [Act.put, zs0, zs1, zs2]))
    (refine wpH_t 8 _ (by exact gE rfl) (by kernel_rfl) (by intro _ _ _ h; exact h) (Or.inl ⟨by rfl, (by intro _ h; (try dsimp only at h); go_simp; first | done | with_reducible rfl)⟩) (by assumption) ?_; (try simp only [Act.put, zs0, zs1, zs2]))
    (refine wpH_t 9 _ (by exact gE rfl) (by kernel_rfl) (by intro _ _ _ h; exact h) (Or.inl ⟨by rfl, (by intro _ h; (try dsimp only at h); go_simp; first | done | with_reducible rfl)⟩) (by assumption) ?_; (try simp only [Act.put, zs0, zs1, zs2]))
    (refine wpH_t 10 _ (by exact gE rfl) (by kernel_rfl) (by intro _ _ _ h; exact h) (Or.inl ⟨by rfl, (by intro _ h; (try dsimp only at h); go_simp; first | done | with_reducible rfl)⟩) (by assumption) ?_; (try simp only [Act.put, zs0, zs1, zs2]))
    (refine wpH_one (i := 11) (by exact gE rfl) (by kernel_rfl) (by rfl) ?_; (go_simp; (with_reducible refine hR8.mono ?_); rintro e w13 ⟨A13, c13, rfl, O13, b13⟩; refine ⟨⟨hp12.drew.below b13 hp12.lt, T12.drew.below b13 T12.lt, o12.drew.below b13 o12.lt, (hp12.drew.below b13 hp12.lt).cell rfl, (o12.drew.below b13 o12.lt).cell rfl, (o12.drew.below b13 o12.lt).cell rfl⟩, ?_⟩); (try simp only [Act.put, zs0, zs1, zs2]))
    have hp13 := hp12.drew.below b13 hp12.lt
    have T13' := T12.drew.below b13 T12.lt
    have o13 := o12.drew.below b13 o12.lt
    have hHx : (fun y : World => Blk y p 71 (pairL vC vD bj bk (some ⟨gm, o, none⟩) nm cm Ar nr cr) ∧ Blk y w3.heap.size 31 (tktL A2 NI c2 y0 y1 y2 y3) ∧ Blk y w.heap.size 45 (opC kd n l v m st po pr rd rp id ref org rec xmt nonce Aa na ca Ba nb cb) ∧ y.cell? ⟨p, 2, none⟩ = some (.pointer (some ⟨bj, 0, none⟩)) ∧ y.cell? ⟨w.heap.size, 16, none⟩ = some (.slice Aa na ca) ∧ y.cell? ⟨w.heap.size, 15, none⟩ = some (.int .u64 nonce)) w13 := ⟨hp13, T13', o13, hp13.cell rfl, o13.cell rfl, o13.cell rfl⟩
    (refine wpH_t 12 _ (by exact gE rfl) (by kernel_rfl) (by intro _ _ _ h; exact h) (Or.inl ⟨by rfl, (by intro _ h; (try dsimp only at h); go_simp; first | done | with_reducible rfl)⟩) (by assumption) ?_; (try simp only [Act.put, zs0, zs1, zs2]))
    (refine wpH_t 13 _ (by exact gE rfl) (by kernel_rfl) (by intro _ _ _ h; exact h) (Or.inl ⟨by rfl, (by intro _ h; (try dsimp only at h); go_simp; first | done | with_reducible rfl)⟩) (by assumption) ?_; (try simp only [Act.put, zs0, zs1, zs2]))
    (refine wpH_t 14 _ (by exact gE rfl) (by kernel_rfl) (by intro _ _ _ h; exact h) (Or.inl ⟨by rfl, (by intro _ h; (try dsimp only at h); go_simp; first | done | with_reducible rfl)⟩) (by assumption) ?_; (try simp only [Act.put, zs0, zs1, zs2]))
    (refine wpH_t 15 _ (by exact gE rfl) (by kernel_rfl) (by intro _ _ _ h; exact h) (Or.inl ⟨by rfl, (by intro _ h; (try dsimp only at h); go_simp; first | done | with_reducible rfl)⟩) (by assumption) ?_; (try simp only [Act.put, zs0, zs1, zs2]))
    (refine wpH_t 16 _ (by exact gE rfl) (by kernel_rfl) (by intro _ _ _ h; exact h) (Or.inl ⟨by rfl, (by intro _ h; (try dsimp only at h); go_simp; first | done | with_reducible rfl)⟩) (by assumption) ?_; (try simp only [Act.put, zs0, zs1, zs2]))
    refine wpH_done (by kernel_rfl) ?_ _
    have B13 := B12.drew.trans (b13.mono B12.size)
    have U13 := U12.drew.below b13 U12.lt
    have O8' := Ow8.drew.below b13 (Nat.le_refl _)
    have hz13 : w13.drew.heap.size = w13.heap.size := rfl
    have hR9 := hRQ bk A8 NI c8 Aa na ca w13.drew (h.kar.below B13 h.kar.lt).drew HL.out ((hXs.below B13.drew (Nat.le_refl _)).wide B13.size) hac hac2 HS.out han (O8'.bs.drew.wide (Nat.zero_le _) (Nat.le_refl _)) HI.out q12'.1 q12'.2.1 q12'.2.2
    rw [hz13] at hR9
    clear hHeld hHx hR8 T13' T12 U12 hp12 o12 O12 Ow8 q12 hRQ
    go_wp2_with fail
    refine wp_region_heldL (fun y => Blk y p 71 (pairL vC vD bj bk (some ⟨gm, o, none⟩) nm cm Ar nr cr) ∧ Blk y w9.heap.size 31 (tktL A8 NI c8 y0 y1 y2 y3) ∧ Blk y w.heap.size 45 (opC kd n l v m st po pr rd rp id ref org rec xmt nonce Aa na ca Ba nb cb) ∧ y.cell? ⟨p, 3, none⟩ = some (.pointer (some ⟨bk, 0, none⟩)) ∧ y.cell? ⟨w.heap.size, 16, none⟩ = some (.slice Aa na ca) ∧ y.cell? ⟨w.heap.size, 15, none⟩ = some (.int .u64 nonce)) 17 (by kernel_rfl) rfl ⟨hp13.drew, U13.drew, o13.drew, hp13.cell rfl, o13.cell rfl, o13.cell rfl⟩ fun hHeld => ?_
    simp only [List.replicate]
    (refine wpH_t 0 _ (by exact gE rfl) (by kernel_rfl) (by intro _ _ _ h; exact h) (Or.inl ⟨by rfl, (by intro _ h; (try dsimp only at h); go_simp; first | done | with_reducible rfl)⟩) (by assumption) ?_; (try simp only [Act.put, zs0, zs1, zs2]))
    (refine wpH_t 1 _ (by exact gE rfl) (by kernel_rfl) (by intro _ _ _ h; exact h) (Or.inl ⟨by rfl, (by intro _ h; (try dsimp only at h); go_simp; first | done | with_reducible rfl)⟩) (by assumption) ?_; (try simp only [Act.put, zs0, zs1, zs2]))
    (refine wpH_t 2 _ (by exact gE rfl) (by kernel_rfl) (by intro _ _ _ h; exact h) (Or.inl ⟨by rfl, (by intro _ h; (try dsimp only at h); go_simp; first | done | with_reducible rfl)⟩) (by assumption) ?_; (try simp only [Act.put, zs0, zs1, zs2]))
    (refine wpH_t 3 _ (by exact gE rfl) (by kernel_rfl) (by intro _ _ _ h; exact h) (Or.inl ⟨by rfl, (by intro _ h; (try dsimp only at h); go_simp; first | done | with_reducible rfl)⟩) (by assumption) ?_; (try simp only [Act.put, zs0, zs1, zs2]))
    refine wpH_t 4 (.agg (tktL A8 NI c8 y0 y1 y2 y3).toArray) (by exact gE rfl) (by kernel_rfl) (by intro _ _ _ h; exact h) (yieldsIf_load_mid (by rfl) 31 _ (by rfl) w9.heap.size 0 (by rfl) (tktL A8 NI c8 y0 y1 y2 y3) _ (fun w' h => h.2.1.range) Tryd.underlying31 rfl sizeTk) (by assumption) ?_
    (try simp only [Act.put, zs0, zs1, zs2])
    (refine wpH_t 5 _ (by exact gE rfl) (by kernel_rfl) (by intro _ _ _ h; exact h) (Or.inl ⟨by rfl, (by intro _ h; (try dsimp only at h); go_simp; first | done | with_reducible rfl)⟩) (by assumption) ?_; (try simp only [Act.put, zs0, zs1, zs2]))
    refine wpH_take (i := 6) (v := .agg ([.int .i64 l, .int .i64 v, .int .i64 m, .int .i64 st, .int .i64 po, .int .i64 pr, .int .u32 rd, .int .u32 rp, .int .u32 id, .int .u64 ref, .int .u64 org, .int .u64 rec, .int .u64 xmt]).toArray) (by exact gE rfl) (by kernel_rfl) (by kernel_rfl) (by kernel_rfl) (by intro _ _ _ h; exact h) (yieldsIf_load_mid (by rfl) 27 _ (by rfl) w.heap.size 2 (by rfl) ([.int .i64 l, .int .i64 v, .int .i64 m, .int .i64 st, .int .i64 po, .int .i64 pr, .int .u32 rd, .int .u32 rp, .int .u32 id, .int .u64 ref, .int .u64 org, .int .u64 rec, .int .u64 xmt]) _ (fun w' h => Blk.mid h.2.2.1 2 [.int .i64 l, .int .i64 v, .int .i64 m, .int .i64 st, .int .i64 po, .int .i64 pr, .int .u32 rd, .int .u32 rp, .int .u32 id, .int .u64 ref, .int .u64 org, .int .u64 rec, .int .u64 xmt] rfl) Tryd.underlying27 rfl sizeNtp) (by assumption) ?_
    (try simp only [Act.put, zs0, zs1, zs2])
    (refine wpH_t 7 _ (by exact gE rfl) (by kernel_rfl) (by intro _ _ _ h; exact h) (Or.inl ⟨by rfl, (by intro _ h; (try dsimp only at h); go_simp; first | done | with_reducible rfl)⟩) (by assumption) ?_; (try simp only [Act.put, zs0, zs1, zs2]))
    (refine wpH_t 8 _ (by exact gE rfl) (by kernel_rfl) (by intro _ _ _ h; exact h) (Or.inl ⟨by rfl, (by intro _ h; (try dsimp only at h); go_simp; first | done | with_reducible rfl)⟩) (by assumption) ?_; (try simp only [Act.put, zs0, zs1, zs2]))
    (refine wpH_t 9 _ (by exact gE rfl) (by kernel_rfl) (by intro _ _ _ h; exact h) (Or.inl ⟨by rfl, (by intro _ h; (try dsimp only at h); go_simp; first | done | with_reducible rfl)⟩) (by assumption) ?_; (try simp only [Act.put, zs0, zs1, zs2]))
    (refine wpH_t 10 _ (by exact gE rfl) (by kernel_rfl) (by intro _ _ _ h; exact h) (Or.inl ⟨by rfl, (by intro _ h; (try dsimp only at h); go_simp; first | done | with_reducible rfl)⟩) (by assumption) ?_; (try simp only [Act.put, zs0, zs1, zs2]))
    (refine wpH_one (i := 11) (by exact gE rfl) (by kernel_rfl) (by rfl) ?_; (go_simp; (with_reducible refine hR9.mono ?_); rintro e w14 ⟨A14, c14, rfl, O14, b14⟩; refine ⟨⟨hp13.drew.below b14 hp13.lt, U13.drew.below b14 U13.lt, o13.drew.below b14 o13.lt, (hp13.drew.below b14 hp13.lt).cell rfl, (o13.drew.below b14 o13.lt).cell rfl, (o13.drew.below b14 o13.lt).cell rfl⟩, ?_⟩); (try simp only [Act.put, zs0, zs1, zs2]))
    have hp14 := hp13.drew.below b14 hp13.lt
    have T14' := U13.drew.below b14 U13.lt
    have o14 := o13.drew.below b14 o13.lt
    have hHx : (fun y : World => Blk y p 71 (pairL vC vD bj bk (some ⟨gm, o, none⟩) nm cm Ar nr cr) ∧ Blk y w9.heap.size 31 (tktL A8 NI c8 y0 y1 y2 y3) ∧ Blk y w.heap.size 45 (opC kd n l v m st po pr rd rp id ref org rec xmt nonce Aa na ca Ba nb cb) ∧ y.cell? ⟨p, 3, none⟩ = some (.pointer (some ⟨bk, 0, none⟩)) ∧ y.cell? ⟨w.heap.size, 16, none⟩ = some (.slice Aa na ca) ∧ y.cell? ⟨w.heap.size, 15, none⟩ = some (.int .u64 nonce)) w14 := ⟨hp14, T14', o14, hp14.cell rfl, o14.cell rfl, o14.cell rfl⟩
    (refine wpH_t 12 _ (by exact gE rfl) (by kernel_rfl) (by intro _ _ _ h; exact h) (Or.inl ⟨by rfl, (by intro _ h; (try dsimp only at h); go_simp; first | done | with_reducible rfl)⟩) (by assumption) ?_; (try simp only [Act.put, zs0, zs1, zs2]))
    (refine wpH_t 13 _ (by exact gE rfl) (by kernel_rfl) (by intro _ _ _ h; exact h) (Or.inl ⟨by rfl, (by intro _ h; (try dsimp only at h); go_simp; first | done | with_reducible rfl)⟩) (by assumption) ?_; (try simp only [Act.put, zs0, zs1, zs2]))
    (refine wpH_t 14 _ (by exact gE rfl) (by kernel_rfl) (by intro _ _ _ h; exact h) (Or.inl ⟨by rfl, (by intro _ h; (try dsimp only at h); go_simp; first | done | with_reducible rfl)⟩) (by assumption) ?_; (try simp only [Act.put, zs0, zs1, zs2]))
    (refine wpH_t 15 _ (by exact gE rfl) (by kernel_rfl) (by intro _ _ _ h; exact h) (Or.inl ⟨by rfl, (by intro _ h; (try dsimp only at h); go_simp; first | done | with_reducible rfl)⟩) (by assumption) ?_; (try simp only [Act.put, zs0, zs1, zs2]))
    (refine wpH_t 16 _ (by exact gE rfl) (by kernel_rfl) (by intro _ _ _ h; exact h) (Or.inl ⟨by rfl, (by intro _ h; (try dsimp only at h); go_simp; first | done | with_reducible rfl)⟩) (by assumption) ?_; (try simp only [Act.put, zs0, zs1, zs2]))
    refine wpH_done (by kernel_rfl) ?_ _
    have B14 := B13.drew.trans (b14.mono B13.size)
    have O13' := O13.drew.below b14 (Nat.le_refl _)
    have hz12w := B12.size
    clear hHeld hHx hR9 T14' U13 hp13 o13 o14 O13 O8' q12' B13 b13 b14 hXs
    have gw : Gw 0 w c w14 (rcl w 3 c) := Gw.of_below B14 (fun _ q => rcl_old q)
    have h14 := h.gw gw (by omega)
    have A14' := hA.gw gw (by omega)
    have B14' := hB.gw gw (by omega)
    have hcol : ∀ x, w.heap.size ≤ x → rcl w 3 c x = 3 := fun x hx => rcl_new hx
    have hlos := h.los
    generalize rcl w 3 c = d at *
    have hcol2 : ∀ g o s, A13 = some ⟨g, o, s⟩ → d g = 3 := fun g o s e => by
      rcases O13'.form with ⟨e1, _⟩ | ⟨x, e1, e2, _⟩
      · rw [e] at e1; cases e1
      · rw [e] at e1
        cases e1
        exact hcol g (by omega)
    have hBE := bequal_any A13 A14 NM NM c13 c14 _ _ _ _ M3 M3 w14 HM.out HM.out O13'.bs O14.bs
    rw [hMe] at hBE
    have hcM := O13'.cap_le
    have hcM2 := O13'.cap_max
    rw [HM.out] at hcM
    clear gw h hA hB hp B14 B12 hcol O14
    by_cases hE3 : E3 = 0
    · have dE : (E3 == 0) = true := by simpa using hE3
      clear hE3
      go_wp2_with (first
        | (go_at_call 15; ((with_reducible refine hBE.mono ?_); rintro e _ ⟨rfl, rfl⟩))
        | ((refine wpl_storeg (by rfl) 23 _ _ (by rfl) p 5 (by rfl) (.slice A13 NM c13) (by rfl) (by rfl) (by simp [Value.oneCell']) _ _ (pairL vC vD bj bk (some ⟨gm, o, none⟩) nm cm A13 NM c13) hp14 (by simp) sizeSl1 (by rfl) ?_; intro w15 hp15 s15 g15); (have gw := Gw.of_but (c := d) (a := 4) g15 (.inr h14.cp)); (have O15 := ow_gw O13' gw (fun x e => by rw [hcol2 x 0 none e]; omega)))
        | (go_at_call 55; (have hAc := pair_accept (h14.setR g15 hp15 (O13'.wide (Nat.le_trans hlos hz12w)) (fun x e => hcol2 x 0 none e) HM.out hM3) (A14'.gw gw (by omega)) (B14'.gw gw (by omega)) hk2 hk3 h8 hI8 A13 NM c13 M3 HM.out (O15.bs.wide (Nat.zero_le _) (Nat.le_refl _)) (fun x y z e _ => hcol2 x y z e) hcM hcM2 hM3); ((with_reducible refine hAc.mono ?_); rintro e w16 ⟨rfl, d', CK', I', z1, z2, z3, z4, z5⟩)))
      go_ret
      exact ⟨rfl, d', bj, bk, g, M, gm, some ⟨gm, o, none⟩, nm, cm, A13, NM, c13, M3, N, CK', I', z1, z2, z3, z4, z5, hN⟩
    · have dE : (E3 == 0) = false := by simpa using hE3
      clear hE3
      go_wp2_with (first
        | (go_at_call 15; ((with_reducible refine hBE.mono ?_); rintro e _ ⟨rfl, rfl⟩))
        | (go_at_call 55; (have hAc := pair_accept h14 A14' B14' hk2 hk3 h8 hI8 A13 NM c13 M3 HM.out (O13'.bs.wide (Nat.zero_le _) (Nat.le_refl _)) (fun x y z e _ => hcol2 x y z e) hcM hcM2 hM3); ((with_reducible refine hAc.mono ?_); rintro e w16 ⟨rfl, d', CK', I', z1, z2, z3, z4, z5⟩)))
      go_ret
      exact ⟨rfl, d', bj, bk, g, M, gm, some ⟨gm, o, none⟩, nm, cm, Ar, nr, cr, R, N, CK', I', z1, z2, z3, z4, z5, hN⟩
end Go.Proofs.YtachhbbofemfdaaDoor
