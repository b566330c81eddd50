/- The server: Reply. The client, behind one name; what a sealed message is read as. The server's part of a trip; the chapter's examples. The chapter's examples (awake). Keys and tickets that came in, opened; six parameters at once. -/
import Derived.Test.YtkccmmhofhaccaaDoorTGz14
import Derived.Test.YtkccmmhofhaccaaDoorTGz12
import Derived.Test.YtkccmmhofhaccaaDoorTGz7
import Derived.Test.YtkccmmhofhaccaaDoorTGz9
import Derived.Test.YtkccmmhofhaccaaDoorTGz2
import Derived.Test.YtkccmmhofhaccaaDoorTGz6
namespace Go.Proofs.YtkccmmhofhaccaaDoor
open Go.RowKit
set_option linter.unusedSimpArgs false
set_option linter.unusedVariables false
set_option maxRecDepth 100000
def grE (ck : Int) (n : Nat) (L : Flds) : Int := if ck ≠ 0 ∨ n ≠ 16 then 2 else if firE L ≠ 0 then 2 else if 14 < L.length then 6 else 0
theorem grE_cases (ck : Int) (n : Nat) (L : Flds) : (ck ≠ 0 ∧ grE ck n L = 2) ∨ (ck = 0 ∧ n ≠ 16 ∧ grE ck n L = 2) ∨ (ck = 0 ∧ n = 16 ∧ firE L ≠ 0 ∧ grE ck n L = 2) ∨ (ck = 0 ∧ n = 16 ∧ firE L = 0 ∧ 14 < L.length ∧ grE ck n L = 6) ∨ (ck = 0 ∧ n = 16 ∧ firE L = 0 ∧ L.length ≤ 14 ∧ grE ck n L = 0) := by
  unfold grE
  by_cases h1 : ck = 0
  · by_cases h2 : n = 16
    · by_cases h3 : firE L = 0
      · by_cases h4 : 14 < L.length
        · exact .inr (.inr (.inr (.inl ⟨h1, h2, h3, h4, by rw [if_neg (by omega), if_neg (by omega), if_pos h4]⟩)))
        · exact .inr (.inr (.inr (.inr ⟨h1, h2, h3, by omega, by rw [if_neg (by omega), if_neg (by omega), if_neg h4]⟩)))
      · exact .inr (.inr (.inl ⟨h1, h2, h3, by rw [if_neg (by omega), if_pos h3]⟩))
    · exact .inr (.inl ⟨h1, h2, by rw [if_pos (.inr h2)]⟩)
  · exact .inl ⟨h1, by rw [if_pos (.inl h1)]⟩
theorem firE_bad {L : Flds} (h : firE L ≠ 0) : ∃ k, k < L.length ∧ chkE (kdL L k) (dtL L k).length ≠ 0 := by
  refine Classical.byContradiction fun hn => h (firE_ok L fun j hj => ?_)
  exact Classical.byContradiction fun hc => hn ⟨j, hj, hc⟩
theorem fir_at {L : Flds} (h : firE L = 0) : ∀ k, k < L.length → chkE (kdL L k) (dtL L k).length = 0 := fun k hk => by
  obtain ⟨e1, e2⟩ := kd_get hk
  rw [e1, e2]
  exact firE_all h _ (List.getElem_mem hk)
set_option maxRecDepth 100000 in
set_option maxHeartbeats 4000000 in
theorem greply_nil (Ai : Option Addr) (ni ci : Nat) (x0 x1 x2 x3 : Int) (l v m st po pr rd rp id ref org rec xmt nonce : Int) (B : Option Addr) (q d : Nat) (w : World) :
    Calls Tryd.prog 14 #[.pointer none, .agg (tktL Ai ni ci x0 x1 x2 x3).toArray, ntp l v m st po pr rd rp id ref org rec xmt, .slice B q d, .int .u64 nonce] w fun e w' => e = .returned (.tuple #[.slice none 0 0, .int .i64 1]) ∧ Below w.heap.size w w' := by
  go_enter Tryd.func14, Tryd.ntmps14
  go_wp2_with (first
    | (refine wpl_box (by rfl) 46 _ (by rfl) _ (tktL Ai ni ci x0 x1 x2 x3) (by rfl) rfl ?_; intro w1 K1 s1 b1)
    | ((refine wpl_box (by rfl) 27 _ (by rfl) _ ([.int .i64 l, .int .i64 v, .int .i64 m, .int .i64 st, .int .i64 po, .int .i64 pr, .int .u32 rd, .int .u32 rp, .int .u32 id, .int .u64 ref, .int .u64 org, .int .u64 rec, .int .u64 xmt]) (by rfl) rfl ?_; intro w2 P2 s2 b2); (have B2 := b1.trans (b2.mono (by omega)))))
  go_ret2
  exact ⟨rfl, B2⟩
set_option maxRecDepth 100000 in
set_option maxHeartbeats 8000000 in
theorem greply_err (bj : Nat) (Ai : Option Addr) (ni ci : Nat) (x0 x1 x2 x3 : Int) (l v m st po pr rd rp id ref org rec xmt nonce : Int) (B : Option Addr) (q d : Nat) (L : Flds) (w : World) (hL : L.length = q) (hX : Xs w w.heap.size B L) (hqd : q ≤ d) (hd : d ≤ 9223372036854775807) (hsz : ∀ k, k < q → (dtL L k).length ≤ 140737488351232) (hE : grE (nchk l v m st po pr) ni L ≠ 0) :
    Calls Tryd.prog 14 #[.pointer (some ⟨bj, 0, none⟩), .agg (tktL Ai ni ci x0 x1 x2 x3).toArray, ntp l v m st po pr rd rp id ref org rec xmt, .slice B q d, .int .u64 nonce] w fun e w' => e = .returned (.tuple #[.slice none 0 0, .int .i64 (grE (nchk l v m st po pr) ni L)]) ∧ Below w.heap.size w w' := by
  have hK := fun W => nchk_any l v m st po pr rd rp id ref org rec xmt W
  rcases grE_cases (nchk l v m st po pr) ni L with ⟨h1, h2⟩ | ⟨h1, h2, h3⟩ | ⟨h1, h2, h3, h4⟩ | ⟨h1, h2, h3, h4, h5⟩ | ⟨h1, h2, h3, h4, h5⟩
  · rw [h2]
    have h1' : (nchk l v m st po pr != 0) = true := by simpa using h1
    generalize nchk l v m st po pr = E at hK h1'
    clear h1 h2 hE
    go_enter Tryd.func14, Tryd.ntmps14
    go_wp2_with (first
      | (refine wpl_box (by rfl) 46 _ (by rfl) _ (tktL Ai ni ci x0 x1 x2 x3) (by rfl) rfl ?_; intro w1 K1 s1 b1)
      | ((refine wpl_box (by rfl) 27 _ (by rfl) _ ([.int .i64 l, .int .i64 v, .int .i64 m, .int .i64 st, .int .i64 po, .int .i64 pr, .int .u32 rd, .int .u32 rp, .int .u32 id, .int .u64 ref, .int .u64 org, .int .u64 rec, .int .u64 xmt]) (by rfl) rfl ?_; intro w2 P2 s2 b2); (have K2 := K1.below b2 (by omega)); (have B2 := b1.trans (b2.mono (by omega))))
      | (refine wpl_load (by rfl) 27 _ (by rfl) w1.heap.size (by rfl) 27 _ P2 _ Tryd.underlying27 rfl _ sizeNtp (by rfl) ?_)
      | (go_at_call 9; ((with_reducible refine (hK _).mono ?_); rintro e w3 ⟨rfl, b3⟩; (have K3 := K2.below b3 K2.lt); (have P3 := P2.below b3 P2.lt); (have B3 := B2.trans (b3.mono B2.size))))
      | (refine wpl_loadf (by rfl) 32 _ (by rfl) w.heap.size 0 (by rfl) _ _ K3 _ rfl _ Tryd.underlying32 rfl ?_)
      )
    go_ret2
    exact ⟨rfl, B3⟩
  · rw [h3]
    rw [h1] at hK
    have h2' : ((ni : Int) != 16) = true := by simp; omega
    clear h1 h2 h3 hE
    go_enter Tryd.func14, Tryd.ntmps14
    go_wp2_with (first
      | (refine wpl_box (by rfl) 46 _ (by rfl) _ (tktL Ai ni ci x0 x1 x2 x3) (by rfl) rfl ?_; intro w1 K1 s1 b1)
      | ((refine wpl_box (by rfl) 27 _ (by rfl) _ ([.int .i64 l, .int .i64 v, .int .i64 m, .int .i64 st, .int .i64 po, .int .i64 pr, .int .u32 rd, .int .u32 rp, .int .u32 id, .int .u64 ref, .int .u64 org, .int .u64 rec, .int .u64 xmt]) (by rfl) rfl ?_; intro w2 P2 s2 b2); (have K2 := K1.below b2 (by omega)); (have B2 := b1.trans (b2.mono (by omega))))
      | (refine wpl_load (by rfl) 27 _ (by rfl) w1.heap.size (by rfl) 27 _ P2 _ Tryd.underlying27 rfl _ sizeNtp (by rfl) ?_)
      | (go_at_call 9; ((with_reducible refine (hK _).mono ?_); rintro e w3 ⟨rfl, b3⟩; (have K3 := K2.below b3 K2.lt); (have P3 := P2.below b3 P2.lt); (have B3 := B2.trans (b3.mono B2.size))))
      | (refine wpl_loadf (by rfl) 32 _ (by rfl) w.heap.size 0 (by rfl) _ _ K3 _ rfl _ Tryd.underlying32 rfl ?_)
      )
    go_ret2
    exact ⟨rfl, B3⟩
  · rw [h4]
    rw [h1] at hK
    have h2' : ((ni : Int) != 16) = false := by simp; omega
    obtain ⟨kb, hkb, hbad⟩ := firE_bad h3
    have HBad := Lib.hid hbad
    clear h1 h2 h3 h4 hE hbad
    go_enter Tryd.func14, Tryd.ntmps14
    go_wp2_with (first
      | (refine wpl_box (by rfl) 46 _ (by rfl) _ (tktL Ai ni ci x0 x1 x2 x3) (by rfl) rfl ?_; intro w1 K1 s1 b1)
      | ((refine wpl_box (by rfl) 27 _ (by rfl) _ ([.int .i64 l, .int .i64 v, .int .i64 m, .int .i64 st, .int .i64 po, .int .i64 pr, .int .u32 rd, .int .u32 rp, .int .u32 id, .int .u64 ref, .int .u64 org, .int .u64 rec, .int .u64 xmt]) (by rfl) rfl ?_; intro w2 P2 s2 b2); (have K2 := K1.below b2 (by omega)); (have B2 := b1.trans (b2.mono (by omega))))
      | (refine wpl_load (by rfl) 27 _ (by rfl) w1.heap.size (by rfl) 27 _ P2 _ Tryd.underlying27 rfl _ sizeNtp (by rfl) ?_)
      | (go_at_call 9; ((with_reducible refine (hK _).mono ?_); rintro e w3 ⟨rfl, b3⟩; (have K3 := K2.below b3 K2.lt); (have P3 := P2.below b3 P2.lt); (have B3 := B2.trans (b3.mono B2.size))))
      | (refine wpl_loadf (by rfl) 32 _ (by rfl) w.heap.size 0 (by rfl) _ _ K3 _ rfl _ Tryd.underlying32 rfl ?_)
      )
    go_loopw [28] (fun i wr => ∃ k : Nat, k ≤ q ∧ i = .int .i64 k ∧ Hid (∀ j, j < k → chkE (kdL L j) (dtL L j).length = 0) ∧ Below w.heap.size w wr) (fun i _ => q - (intOf i).toNat)
    case atStart => exact ⟨0, by omega, rfl, fun j hj => absurd hj (by omega), B3⟩
    case round =>
      obtain ⟨k, hk, rfl, hV, hB⟩ := hrel
      by_cases hlt : k < q
      · skip
        obtain ⟨bb, o, rfl, hbw, hx⟩ := (hX.below hB (Nat.le_refl _)) (by omega)
        obtain ⟨Ak, ck, hrg, hBk, hlc, hcm, hno⟩ := (hx k (by omega)).open'
        have hi0 : (0 : Int) ≤ k := by omega
        have hi1 : (k : Int) < q := by omega
        obtain ⟨K, hK⟩ : ∃ K, K = kdL L k := ⟨_, rfl⟩
        obtain ⟨D, hD⟩ : ∃ D, D = (dtL L k).length := ⟨_, rfl⟩
        rw [← hK, ← hD] at hrg
        have hck := fun W => chk_any K Ak D ck W (by have := hsz k (by omega); omega)
        have hE0 : chkE K D = chkE (kdL L k) (dtL L k).length := by rw [hK, hD]
        clear hx hBk hlc hno hK hD
        generalize hEE : chkE K D = E at hck hE0
        by_cases hE0' : E = 0
        · have hc0 : (E != 0) = false := by simpa using hE0'
          have hV' : Hid (∀ j, j < k + 1 → chkE (kdL L j) (dtL L j).length = 0) := fun j hj => by
            rcases Nat.lt_or_ge j k with q1 | q1
            · exact hV.out j q1
            · obtain rfl : j = k := by omega
              rw [← hE0, hE0']
          clear hE0 hE0' hEE
          go_wp2_with (first
            | (refine wpl_loadr (by rfl) 69 _ (by rfl) bb (o + k * 2) (by rfl) _ hrg _ Tryd.underlying69 rfl _ sizeExt (by rfl) ?_)
            | ((refine wpl_alloc (by rfl) 69 (by rfl) (.agg (exC 0 none 0 0).toArray) (exC 0 none 0 0) zeroExt rfl ?_; intro wa Ja sa ba))
            | (refine wpl_store (by rfl) 69 _ _ (by rfl) wr.heap.size (by rfl) _ (by rfl) (exC K Ak D ck) rfl 69 _ Ja (by rfl) _ sizeExt (by rfl) (by simp [Value.oneCell']) ?_; intro wb Jb sb gb)
            | (refine wpl_load (by rfl) 69 _ (by rfl) wr.heap.size (by rfl) 69 _ Jb _ Tryd.underlying69 rfl _ sizeExt (by rfl) ?_)
            | (go_at_call 28; ((with_reducible refine (hck _).mono ?_); rintro e wc ⟨rfl, bc⟩))
            )
          exact ⟨⟨k + 1, by omega, by go_num, hV', ((hB.trans (ba.mono hB.size)).trans (But.below (g := wr.heap.size) gb (by have := hB.size; omega) hB.size)).trans (bc.mono (by have := hB.size; omega))⟩, by simp [intOf]; omega⟩
        · have hc0 : (E != 0) = true := by simpa using hE0'
          clear hE0 hE0' hEE
          go_wp2_with (first
            | (refine wpl_loadr (by rfl) 69 _ (by rfl) bb (o + k * 2) (by rfl) _ hrg _ Tryd.underlying69 rfl _ sizeExt (by rfl) ?_)
            | ((refine wpl_alloc (by rfl) 69 (by rfl) (.agg (exC 0 none 0 0).toArray) (exC 0 none 0 0) zeroExt rfl ?_; intro wa Ja sa ba))
            | (refine wpl_store (by rfl) 69 _ _ (by rfl) wr.heap.size (by rfl) _ (by rfl) (exC K Ak D ck) rfl 69 _ Ja (by rfl) _ sizeExt (by rfl) (by simp [Value.oneCell']) ?_; intro wb Jb sb gb)
            | (refine wpl_load (by rfl) 69 _ (by rfl) wr.heap.size (by rfl) 69 _ Jb _ Tryd.underlying69 rfl _ sizeExt (by rfl) ?_)
            | (go_at_call 28; ((with_reducible refine (hck _).mono ?_); rintro e wc ⟨rfl, bc⟩))
            )
          go_ret2
          exact ⟨rfl, ((hB.trans (ba.mono hB.size)).trans (But.below (g := wr.heap.size) gb (by have := hB.size; omega) hB.size)).trans (bc.mono (by have := hB.size; omega))⟩
      · exfalso
        exact HBad.out (hV.out kb (by omega))
  · rw [h5]
    rw [h1] at hK
    have h2' : ((ni : Int) != 16) = false := by simp; omega
    have hall := Lib.hid (fir_at h3)
    have hgt : decide ((14 : Int) < q) = true := decide_eq_true (by omega)
    clear h1 h2 h3 h4 h5 hE
    go_enter Tryd.func14, Tryd.ntmps14
    go_wp2_with (first
      | (refine wpl_box (by rfl) 46 _ (by rfl) _ (tktL Ai ni ci x0 x1 x2 x3) (by rfl) rfl ?_; intro w1 K1 s1 b1)
      | ((refine wpl_box (by rfl) 27 _ (by rfl) _ ([.int .i64 l, .int .i64 v, .int .i64 m, .int .i64 st, .int .i64 po, .int .i64 pr, .int .u32 rd, .int .u32 rp, .int .u32 id, .int .u64 ref, .int .u64 org, .int .u64 rec, .int .u64 xmt]) (by rfl) rfl ?_; intro w2 P2 s2 b2); (have K2 := K1.below b2 (by omega)); (have B2 := b1.trans (b2.mono (by omega))))
      | (refine wpl_load (by rfl) 27 _ (by rfl) w1.heap.size (by rfl) 27 _ P2 _ Tryd.underlying27 rfl _ sizeNtp (by rfl) ?_)
      | (go_at_call 9; ((with_reducible refine (hK _).mono ?_); rintro e w3 ⟨rfl, b3⟩; (have K3 := K2.below b3 K2.lt); (have P3 := P2.below b3 P2.lt); (have B3 := B2.trans (b3.mono B2.size))))
      | (refine wpl_loadf (by rfl) 32 _ (by rfl) w.heap.size 0 (by rfl) _ _ K3 _ rfl _ Tryd.underlying32 rfl ?_)
      )
    go_loopw [28] (fun i wr => ∃ k : Nat, k ≤ q ∧ i = .int .i64 k ∧ Below w.heap.size w wr) (fun i _ => q - (intOf i).toNat)
    case atStart => exact ⟨0, by omega, rfl, B3⟩
    case round =>
      obtain ⟨k, hk, rfl, hB⟩ := hrel
      by_cases hlt : k < q
      · skip
        obtain ⟨bb, o, rfl, hbw, hx⟩ := (hX.below hB (Nat.le_refl _)) (by omega)
        obtain ⟨Ak, ck, hrg, hBk, hlc, hcm, hno⟩ := (hx k (by omega)).open'
        have hi0 : (0 : Int) ≤ k := by omega
        have hi1 : (k : Int) < q := by omega
        obtain ⟨K, hK⟩ : ∃ K, K = kdL L k := ⟨_, rfl⟩
        obtain ⟨D, hD⟩ : ∃ D, D = (dtL L k).length := ⟨_, rfl⟩
        rw [← hK, ← hD] at hrg
        have hck := fun W => chk_any K Ak D ck W (by have := hsz k (by omega); omega)
        have hE0 : chkE K D = chkE (kdL L k) (dtL L k).length := by rw [hK, hD]
        clear hx hBk hlc hno hK hD
        generalize hEE : chkE K D = E at hck hE0
        have hc0 : (E != 0) = false := by
          have := hall.out k (by omega)
          rw [← hE0] at this
          simp [this]
        clear hE0 hEE
        go_wp2_with (first
          | (refine wpl_loadr (by rfl) 69 _ (by rfl) bb (o + k * 2) (by rfl) _ hrg _ Tryd.underlying69 rfl _ sizeExt (by rfl) ?_)
          | ((refine wpl_alloc (by rfl) 69 (by rfl) (.agg (exC 0 none 0 0).toArray) (exC 0 none 0 0) zeroExt rfl ?_; intro wa Ja sa ba))
          | (refine wpl_store (by rfl) 69 _ _ (by rfl) wr.heap.size (by rfl) _ (by rfl) (exC K Ak D ck) rfl 69 _ Ja (by rfl) _ sizeExt (by rfl) (by simp [Value.oneCell']) ?_; intro wb Jb sb gb)
          | (refine wpl_load (by rfl) 69 _ (by rfl) wr.heap.size (by rfl) 69 _ Jb _ Tryd.underlying69 rfl _ sizeExt (by rfl) ?_)
          | (go_at_call 28; ((with_reducible refine (hck _).mono ?_); rintro e wc ⟨rfl, bc⟩))
          )
        exact ⟨⟨k + 1, by omega, by go_num, ((hB.trans (ba.mono hB.size)).trans (But.below (g := wr.heap.size) gb (by have := hB.size; omega) hB.size)).trans (bc.mono (by have := hB.size; omega))⟩, by simp [intOf]; omega⟩
      · obtain rfl : k = q := by omega
        go_wp2
        go_ret2
        exact ⟨rfl, hB⟩
  · exact absurd h5 hE
/-- the fields of a reply -/
def rpF (id ck : List Int) (L : Flds) : Flds := [(260, id), (772, ck)] ++ L
theorem rpF_apx {id ck : List Int} {L : Flds} (h1 : id.length = 16) (h2 : ck.length = 52) (h3 : firE L = 0) (h4 : L.length ≤ 14) : apxE (rpF id ck L) = 0 := by
  unfold apxE rpF
  rw [if_neg (by rw [List.length_append]; simp only [List.length_cons, List.length_nil]; omega)]
  refine firE_valid fun t ht => ?_
  rw [List.mem_append] at ht
  rcases ht with ht | ht
  · have : t = (260, id) ∨ t = (772, ck) := by simpa using ht
    rcases this with rfl | rfl
    · simp [chkE, h1]
    · simp [chkE, h2]
  · exact firE_all h3 t ht
/-- the row of the two fields -/
theorem xb_two {w : World} {g lo : Nat} {A A' : Option Addr} {n c n' c' : Nat} {d d' : List Int} {kd kd' : Int} (h : Blk w g 69 [.int .i64 kd, .slice A n c, .int .i64 kd', .slice A' n' c']) (hlo : lo ≤ g) (hn : d.length = n) (hn' : d'.length = n')
    (hd : XD w lo ((kd, d), (A, c))) (hd' : XD w lo ((kd', d'), (A', c'))) : XB w lo (some ⟨g, 0, none⟩) 2 [((kd, d), (A, c)), ((kd', d'), (A', c'))] := by
  subst hn hn'
  refine ⟨⟨rfl, .inr ⟨g, 2, #[.int .i64 kd, .slice A d.length c, .int .i64 kd', .slice A' d'.length c'], rfl, hlo, h, Nat.le_refl _, by unfold maxLen; omega, rfl, rfl⟩⟩, fun t ht => ?_⟩
  have : t = ((kd, d), (A, c)) ∨ t = ((kd', d'), (A', c')) := by simpa using ht
  rcases this with rfl | rfl
  · exact hd
  · exact hd'
set_option maxRecDepth 100000 in
set_option maxHeartbeats 16000000 in
theorem greply_ok (bj : Nat) (Ai : Option Addr) (ni ci : Nat) (x0 x1 x2 x3 : Int) (l v m st po pr rd rp id ref org rec xmt nonce : Int) (B : Option Addr) (q d : Nat) (L : Flds) (w : World) (hL : L.length = q) (hX : Xs w w.heap.size B L) (hqd : q ≤ d) (hd : d ≤ 9223372036854775807) (hsz : ∀ k, k < q → (dtL L k).length ≤ 140737488351232) (s kk g : Int) (id' : List Int) (hJ : Blk w bj 56 (jarL s kk g)) (hs : U64 s) (hg : Gn g) (hR : Rnd w) (hno : U64 nonce) (hx0 : U64 x0) (hx1 : U64 x1) (hx2 : U64 x2) (hx3 : U64 x3) (hBn : B = none → q = 0) (hI : Bs w 0 w.heap.size Ai id') (hil : id'.length = ni) (hic : ni ≤ ci) (hicc : ci ≤ 9223372036854775807) (hin : Ai = none → ni = 0 ∧ ci = 0) (h6 : 0 ≤ rd ∧ rd ≤ 4294967295) (h7 : 0 ≤ rp ∧ rp ≤ 4294967295) (h8 : 0 ≤ id ∧ id ≤ 4294967295) (h9 : 0 ≤ ref ∧ ref ≤ 18446744073709551615) (h10 : 0 ≤ org ∧ org ≤ 18446744073709551615) (h11 : 0 ≤ rec ∧ rec ≤ 18446744073709551615) (h12 : 0 ≤ xmt ∧ xmt ≤ 18446744073709551615) (hE : grE (nchk l v m st po pr) ni L = 0) :
    Calls Tryd.prog 14 #[.pointer (some ⟨bj, 0, none⟩), .agg (tktL Ai ni ci x0 x1 x2 x3).toArray, ntp l v m st po pr rd rp id ref org rec xmt, .slice B q d, .int .u64 nonce] w fun e w' => ∃ A c n, e = .returned (.tuple #[.slice A n c, .int .i64 0]) ∧ (msgB l v m st po pr rd rp id ref org rec xmt (rpF id' (ckB s g nonce x0 x1 x2 x3) L) x2 x3).length = n ∧ Ow w' w.heap.size A c (msgB l v m st po pr rd rp id ref org rec xmt (rpF id' (ckB s g nonce x0 x1 x2 x3) L) x2 x3) ∧ Below w.heap.size w w' := by
  have hK := fun W => nchk_any l v m st po pr rd rp id ref org rec xmt W
  obtain ⟨h1, h2, h3, h4⟩ : nchk l v m st po pr = 0 ∧ ni = 16 ∧ firE L = 0 ∧ L.length ≤ 14 := by
    rcases grE_cases (nchk l v m st po pr) ni L with ⟨h1, h2⟩ | ⟨h1, h2, h3⟩ | ⟨h1, h2, h3, h4⟩ | ⟨h1, h2, h3, h4, h5⟩ | ⟨h1, h2, h3, h4, h5⟩
    · omega
    · omega
    · omega
    · omega
    · exact ⟨h1, h2, h3, h4⟩
  have hck52 := ckB_len s g nonce x0 x1 x2 x3
  have hapx := rpF_apx (L := L) (hil.trans h2) hck52 h3 h4
  rw [h1] at hK
  have h2' : ((ni : Int) != 16) = false := by simp; omega
  have hall := Lib.hid (fir_at h3)
  have hgt : decide ((14 : Int) < q) = false := decide_eq_false (by omega)
  have hSe := fun W hJ hR => seal_any bj s kk g x0 x1 x2 x3 nonce W hs hg hno hx0 hx1 hx2 hx3 hJ hR
  have hMs := fun B q d W hm hX hmd hd hR => seal_ok l v m st po pr rd rp id ref org rec xmt B q d (rpF id' (ckB s g nonce x0 x1 x2 x3) L) x2 x3 W h1 h6 h7 h8 h9 h10 h11 h12 hm hX hmd hd hapx hx2 hx3 hR
  generalize ckB s g nonce x0 x1 x2 x3 = CK at hSe hMs hck52 ⊢
  have hML : Hid (L.length ≤ 14) := h4
  have HN16 := Lib.hid h2
  clear h2 h3 hE hapx
  go_enter Tryd.func14, Tryd.ntmps14
  go_wp2_with (first
    | (refine wpl_box (by rfl) 46 _ (by rfl) _ (tktL Ai ni ci x0 x1 x2 x3) (by rfl) rfl ?_; intro w1 K1 s1 b1)
    | ((refine wpl_box (by rfl) 27 _ (by rfl) _ ([.int .i64 l, .int .i64 v, .int .i64 m, .int .i64 st, .int .i64 po, .int .i64 pr, .int .u32 rd, .int .u32 rp, .int .u32 id, .int .u64 ref, .int .u64 org, .int .u64 rec, .int .u64 xmt]) (by rfl) rfl ?_; intro w2 P2 s2 b2); (have K2 := K1.below b2 (by omega)); (have B2 := b1.trans (b2.mono (by omega))))
    | (refine wpl_load (by rfl) 27 _ (by rfl) w1.heap.size (by rfl) 27 _ P2 _ Tryd.underlying27 rfl _ sizeNtp (by rfl) ?_)
    | (go_at_call 9; ((with_reducible refine (hK _).mono ?_); rintro e w3 ⟨rfl, b3⟩; (have K3 := K2.below b3 K2.lt); (have P3 := P2.below b3 P2.lt); (have B3 := B2.trans (b3.mono B2.size))))
    | (refine wpl_loadf (by rfl) 32 _ (by rfl) w.heap.size 0 (by rfl) _ _ K3 _ rfl _ Tryd.underlying32 rfl ?_)
    )
  go_loopw [28] (fun i wr => ∃ k : Nat, k ≤ q ∧ i = .int .i64 k ∧ Below w3.heap.size w3 wr) (fun i _ => q - (intOf i).toNat)
  case atStart => exact ⟨0, by omega, rfl, Below.refl _ _⟩
  case round =>
    obtain ⟨k, hk, rfl, hB3⟩ := hrel
    have hB := B3.trans (hB3.mono B3.size)
    by_cases hlt : k < q
    · skip
      obtain ⟨bb, o, rfl, hbw, hx⟩ := (hX.below hB (Nat.le_refl _)) (by omega)
      obtain ⟨Ak, ck, hrg, hBk, hlc, hcm, hno⟩ := (hx k (by omega)).open'
      have hi0 : (0 : Int) ≤ k := by omega
      have hi1 : (k : Int) < q := by omega
      obtain ⟨K, hK⟩ : ∃ K, K = kdL L k := ⟨_, rfl⟩
      obtain ⟨D, hD⟩ : ∃ D, D = (dtL L k).length := ⟨_, rfl⟩
      rw [← hK, ← hD] at hrg
      have hck := fun W => chk_any K Ak D ck W (by have := hsz k (by omega); omega)
      have hE0 : chkE K D = chkE (kdL L k) (dtL L k).length := by rw [hK, hD]
      clear hx hBk hlc hno hK hD
      generalize hEE : chkE K D = E at hck hE0
      have hc0 : (E != 0) = false := by
        have := hall.out k (by omega)
        rw [← hE0] at this
        simp [this]
      clear hE0 hEE
      go_wp2_with (first
        | (refine wpl_loadr (by rfl) 69 _ (by rfl) bb (o + k * 2) (by rfl) _ hrg _ Tryd.underlying69 rfl _ sizeExt (by rfl) ?_)
        | ((refine wpl_alloc (by rfl) 69 (by rfl) (.agg (exC 0 none 0 0).toArray) (exC 0 none 0 0) zeroExt rfl ?_; intro wa Ja sa ba))
        | (refine wpl_store (by rfl) 69 _ _ (by rfl) wr.heap.size (by rfl) _ (by rfl) (exC K Ak D ck) rfl 69 _ Ja (by rfl) _ sizeExt (by rfl) (by simp [Value.oneCell']) ?_; intro wb Jb sb gb)
        | (refine wpl_load (by rfl) 69 _ (by rfl) wr.heap.size (by rfl) 69 _ Jb _ Tryd.underlying69 rfl _ sizeExt (by rfl) ?_)
        | (go_at_call 28; ((with_reducible refine (hck _).mono ?_); rintro e wc ⟨rfl, bc⟩))
        )
      exact ⟨⟨k + 1, by omega, by go_num, ((hB3.trans (ba.mono hB3.size)).trans (But.below (g := wr.heap.size) gb (by have := hB3.size; omega) hB3.size)).trans (bc.mono (by have := hB3.size; omega))⟩, by simp [intOf]; omega⟩
    · obtain rfl : k = q := by omega
      have K4 := K3.below hB3 K3.lt
      have P4 := P3.below hB3 P3.lt
      have J4 := hJ.below hB hJ.lt
      have R4 := hR.below hB hR.lt
      have I4 := hI.below hB (Nat.le_refl _)
      have X4 := hX.below hB (Nat.le_refl _)
      have z4 := hB.size
      have hK0 : wr.cell? ⟨w.heap.size, 0, none⟩ = some (.slice Ai ni ci) := K4.cell rfl
      clear K1 K2 K3 P2 P3 b1 b2 b3 B2 B3 hB3 hall hsz
      go_wp2_with fail
      refine wp_region_heldL (fun y => Blk y w.heap.size 46 (tktL Ai ni ci x0 x1 x2 x3) ∧ y.cell? ⟨w.heap.size, 0, none⟩ = some (.slice Ai ni ci)) 13 (by kernel_rfl) rfl ⟨K4.drew, hK0⟩ fun hHeld => ?_
      simp only [List.replicate]
      (refine wpH_take (i := 0) (v := _) (by simp only [List.getElem?_toArray, List.getElem?_cons_succ, List.getElem?_cons_zero]; rfl) (by kernel_rfl) (by kernel_rfl) (by kernel_rfl) (by intro _ _ _ h; exact h) (Or.inl ⟨by rfl, (by intro w' hSw; (try dsimp only at hSw); go_simp; first | done | with_reducible rfl)⟩) (by assumption) ?_; (try simp only [Act.put, List.setIfInBounds_toArray, List.set_cons_zero, List.set_cons_succ]))
      (refine wpH_take (i := 1) (v := _) (by simp only [List.getElem?_toArray, List.getElem?_cons_succ, List.getElem?_cons_zero]; rfl) (by kernel_rfl) (by kernel_rfl) (by kernel_rfl) (by intro _ _ _ h; exact h) (Or.inl ⟨by rfl, (by intro w' hSw; (try dsimp only at hSw); go_simp; first | done | with_reducible rfl)⟩) (by assumption) ?_; (try simp only [Act.put, List.setIfInBounds_toArray, List.set_cons_zero, List.set_cons_succ]))
      (refine wpH_take (i := 2) (v := _) (by simp only [List.getElem?_toArray, List.getElem?_cons_succ, List.getElem?_cons_zero]; rfl) (by kernel_rfl) (by kernel_rfl) (by kernel_rfl) (by intro _ _ _ h; exact h) (Or.inl ⟨by rfl, (by intro w' hSw; (try dsimp only at hSw); go_simp; first | done | with_reducible rfl)⟩) (by assumption) ?_; (try simp only [Act.put, List.setIfInBounds_toArray, List.set_cons_zero, List.set_cons_succ]))
      (refine wpH_take (i := 3) (v := _) (by simp only [List.getElem?_toArray, List.getElem?_cons_succ, List.getElem?_cons_zero]; rfl) (by kernel_rfl) (by kernel_rfl) (by kernel_rfl) (by intro _ _ _ h; exact h) (Or.inl ⟨by rfl, (by intro w' hSw; (try dsimp only at hSw); go_simp; first | done | with_reducible rfl)⟩) (by assumption) ?_; (try simp only [Act.put, List.setIfInBounds_toArray, List.set_cons_zero, List.set_cons_succ]))
      (refine wpH_take (i := 4) (v := _) (by simp only [List.getElem?_toArray, List.getElem?_cons_succ, List.getElem?_cons_zero]; rfl) (by kernel_rfl) (by kernel_rfl) (by kernel_rfl) (by intro _ _ _ h; exact h) (Or.inl ⟨by rfl, (by intro w' hSw; (try dsimp only at hSw); go_simp; first | done | with_reducible rfl)⟩) (by assumption) ?_; (try simp only [Act.put, List.setIfInBounds_toArray, List.set_cons_zero, List.set_cons_succ]))
      refine wpH_take (i := 5) (v := .agg (keyL x0 x1).toArray) (by simp only [List.getElem?_toArray, List.getElem?_cons_succ, List.getElem?_cons_zero]; rfl) (by kernel_rfl) (by kernel_rfl) (by kernel_rfl) (by intro _ _ _ h; exact h) (yieldsIf_load_mid (by rfl) 24 _ (by rfl) w.heap.size 1 (by rfl) (keyL x0 x1) _ (fun w' h => Blk.mid h.1 1 (keyL x0 x1) rfl) Tryd.underlying24 rfl sizeKey) (by assumption) ?_
      (try simp only [Act.put, List.setIfInBounds_toArray, List.set_cons_zero, List.set_cons_succ])
      (refine wpH_take (i := 6) (v := _) (by simp only [List.getElem?_toArray, List.getElem?_cons_succ, List.getElem?_cons_zero]; rfl) (by kernel_rfl) (by kernel_rfl) (by kernel_rfl) (by intro _ _ _ h; exact h) (Or.inl ⟨by rfl, (by intro w' hSw; (try dsimp only at hSw); go_simp; first | done | with_reducible rfl)⟩) (by assumption) ?_; (try simp only [Act.put, List.setIfInBounds_toArray, List.set_cons_zero, List.set_cons_succ]))
      refine wpH_take (i := 7) (v := .agg (keyL x2 x3).toArray) (by simp only [List.getElem?_toArray, List.getElem?_cons_succ, List.getElem?_cons_zero]; rfl) (by kernel_rfl) (by kernel_rfl) (by kernel_rfl) (by intro _ _ _ h; exact h) (yieldsIf_load_mid (by rfl) 24 _ (by rfl) w.heap.size 3 (by rfl) (keyL x2 x3) _ (fun w' h => Blk.mid h.1 3 (keyL x2 x3) rfl) Tryd.underlying24 rfl sizeKey) (by assumption) ?_
      (try simp only [Act.put, List.setIfInBounds_toArray, List.set_cons_zero, List.set_cons_succ])
      (refine wpH_take (i := 8) (v := _) (by simp only [List.getElem?_toArray, List.getElem?_cons_succ, List.getElem?_cons_zero]; rfl) (by kernel_rfl) (by kernel_rfl) (by kernel_rfl) (by intro _ _ _ h; exact h) (Or.inl ⟨by rfl, (by intro w' hSw; (try dsimp only at hSw); go_simp; first | done | with_reducible rfl)⟩) (by assumption) ?_; (try simp only [Act.put, List.setIfInBounds_toArray, List.set_cons_zero, List.set_cons_succ]))
      have hSE := hSe wr.drew J4.drew R4.drew
      (refine wpH_one (i := 9) (by simp only [List.getElem?_toArray, List.getElem?_cons_succ, List.getElem?_cons_zero]; rfl) (by kernel_rfl) (by rfl) ?_; (go_simp; (with_reducible refine hSE.mono ?_); rintro e w5 ⟨A5, c5, rfl, O5, b5⟩; refine ⟨⟨K4.drew.below b5 K4.lt, (K4.drew.below b5 K4.lt).cell rfl⟩, ?_⟩); (try simp only [Act.put, List.setIfInBounds_toArray, List.set_cons_zero, List.set_cons_succ]))
      have K5 := K4.drew.below b5 K4.lt
      have P5 := P4.drew.below b5 P4.lt
      have R5 := R4.drew.below b5 R4.lt
      have I5 := I4.drew.below b5 z4
      have X5 := X4.below (((Below.refl _ wr).drew).trans b5) z4
      have z5 : wr.heap.size ≤ w5.heap.size := b5.size
      have B5 := hB.drew.trans (b5.mono z4)
      have hH5 : Blk w5 w.heap.size 46 (tktL Ai ni ci x0 x1 x2 x3) ∧ w5.cell? ⟨w.heap.size, 0, none⟩ = some (.slice Ai ni ci) := ⟨K5, K5.cell rfl⟩
      (refine wpH_take (i := 10) (v := _) (by simp only [List.getElem?_toArray, List.getElem?_cons_succ, List.getElem?_cons_zero]; rfl) (by kernel_rfl) (by kernel_rfl) (by kernel_rfl) (by intro _ _ _ h; exact h) (Or.inl ⟨by rfl, (by intro w' hSw; (try dsimp only at hSw); go_simp; first | done | with_reducible rfl)⟩) (by assumption) ?_; (try simp only [Act.put, List.setIfInBounds_toArray, List.set_cons_zero, List.set_cons_succ]))
      have hcc5 := O5.cap_le
      rw [hck52] at hcc5
      have hO5n : A5 ≠ none := fun e => by
        rcases O5.form with ⟨_, e2, _⟩ | ⟨r, e2, _⟩
        · rw [e2] at hck52; cases hck52
        · rw [e2] at e; cases e
      (refine wpH_one (i := 11) (by simp only [List.getElem?_toArray, List.getElem?_cons_succ, List.getElem?_cons_zero]; rfl) (by kernel_rfl) (by rfl) ?_; (go_simp; refine ⟨⟨K5.old, K5.old.cell rfl⟩, ?_⟩); (try simp only [Act.put, List.setIfInBounds_toArray, List.set_cons_zero, List.set_cons_succ]))
      obtain ⟨w6, hw6⟩ : ∃ w6, w6 = w5.alloc (.cells #[.int .i64 260, .slice Ai ni ci, .int .i64 772, .slice A5 52 c5] 69) := ⟨_, rfl⟩
      rw [← hw6]
      have b6 : Below w5.heap.size w5 w6 := by rw [hw6]; exact (Below.refl _ w5).alloc (Nat.le_refl _) _
      have N6 : Blk w6 w5.heap.size 69 [.int .i64 260, .slice Ai ni ci, .int .i64 772, .slice A5 52 c5] := by rw [hw6]; exact Blk.new w5 _ _ _ rfl
      clear hw6
      have K6 := K5.below b6 K5.lt
      have zP5 := P5.lt
      have zK5 := K5.lt
      have zR5 := R5.lt
      have P6 := P5.below b6 P5.lt
      have R6 := R5.below b6 R5.lt
      have z45 := hB.size
      have zw5 : w.heap.size ≤ w5.heap.size := by omega
      have TB := xb_two (lo := w5.heap.size) N6 (Nat.le_refl _) hil hck52 ⟨((I5.below b6 (by omega)).wide (Nat.le_refl _) zw5), by show id'.length ≤ ci; omega, hicc, by rw [hil]; exact hin⟩ ⟨(O5.bs.wide (Nat.zero_le _) (Nat.le_refl _)).below b6 (Nat.le_refl _), by show CK.length ≤ c5; omega, O5.cap_max, fun e => absurd e hO5n⟩
      have X6 := X5.below b6 (by omega)
      obtain ⟨U, hU, hUc, hUX⟩ := xs_rows_any (lo := w5.heap.size) (n := k) X6 hL hBn zw5
      have hUl : U.length = k := by rw [← flds_len, hU, hL]
      have B6 := B5.trans (b6.mono B5.size)
      have z6 := N6.lt
      have hH6 : Blk w6 w.heap.size 46 (tktL Ai ni ci x0 x1 x2 x3) ∧ w6.cell? ⟨w.heap.size, 0, none⟩ = some (.slice Ai ni ci) := ⟨K6, K6.cell rfl⟩
      (refine wpH_take (i := 12) (v := _) (by simp only [List.getElem?_toArray, List.getElem?_cons_succ, List.getElem?_cons_zero]; rfl) (by kernel_rfl) (by kernel_rfl) (by kernel_rfl) (by intro _ _ _ h; exact h) (Or.inl ⟨by rfl, (by intro w' hSw; (try dsimp only at hSw); go_simp; first | done | with_reducible rfl)⟩) (by assumption) ?_; (try simp only [Act.put, List.setIfInBounds_toArray, List.set_cons_zero, List.set_cons_succ]))
      refine wpH_done (by kernel_rfl) ?_ _
      clear hHeld hH5 hH6 K4 K5 P4 P5 J4 R4 R5 I4 I5 X4 X5 X6 hSE hSe B5 b5 hK0 N6 O5 hO5n
      go_wp2_with fail
      have zP := P6.lt
      have zK := K6.lt
      have z1' : w1.heap.size ≤ w6.heap.size := by omega
      generalize hq1 : w1.heap.size = n1 at *
      refine wp_region_heldL (fun y => Blk y w.heap.size 46 (tktL Ai ni ci x0 x1 x2 x3) ∧ Blk y n1 27 [.int .i64 l, .int .i64 v, .int .i64 m, .int .i64 st, .int .i64 po, .int .i64 pr, .int .u32 rd, .int .u32 rp, .int .u32 id, .int .u64 ref, .int .u64 org, .int .u64 rec, .int .u64 xmt]) 11 (by kernel_rfl) rfl ⟨K6.drew, P6.drew⟩ fun hHeld => ?_
      simp only [List.replicate]
      refine wpH_take (i := 0) (v := .agg ([.int .i64 l, .int .i64 v, .int .i64 m, .int .i64 st, .int .i64 po, .int .i64 pr, .int .u32 rd, .int .u32 rp, .int .u32 id, .int .u64 ref, .int .u64 org, .int .u64 rec, .int .u64 xmt]).toArray) (by simp only [List.getElem?_toArray, List.getElem?_cons_succ, List.getElem?_cons_zero]; rfl) (by kernel_rfl) (by kernel_rfl) (by kernel_rfl) (by intro _ _ _ h; exact h) (yieldsIf_load_mid (by rfl) 27 _ (by rfl) n1 0 (by rfl) ([.int .i64 l, .int .i64 v, .int .i64 m, .int .i64 st, .int .i64 po, .int .i64 pr, .int .u32 rd, .int .u32 rp, .int .u32 id, .int .u64 ref, .int .u64 org, .int .u64 rec, .int .u64 xmt]) _ (fun w' h => h.2.range) Tryd.underlying27 rfl sizeNtp) (by assumption) ?_
      (try simp only [Act.put, List.setIfInBounds_toArray, List.set_cons_zero, List.set_cons_succ])
      (refine wpH_take (i := 1) (v := _) (by simp only [List.getElem?_toArray, List.getElem?_cons_succ, List.getElem?_cons_zero]; rfl) (by kernel_rfl) (by kernel_rfl) (by kernel_rfl) (by intro _ _ _ h; exact h) (Or.inl ⟨by rfl, (by intro w' hSw; (try dsimp only at hSw); go_simp; first | done | with_reducible rfl)⟩) (by assumption) ?_; (try simp only [Act.put, List.setIfInBounds_toArray, List.set_cons_zero, List.set_cons_succ]))
      (refine wpH_take (i := 2) (v := _) (by simp only [List.getElem?_toArray, List.getElem?_cons_succ, List.getElem?_cons_zero]; rfl) (by kernel_rfl) (by kernel_rfl) (by kernel_rfl) (by intro _ _ _ h; exact h) (Or.inl ⟨by rfl, (by intro w' hSw; (try dsimp only at hSw); go_simp; first | done | with_reducible rfl)⟩) (by assumption) ?_; (try simp only [Act.put, List.setIfInBounds_toArray, List.set_cons_zero, List.set_cons_succ]))
      (refine wpH_take (i := 4) (v := _) (by simp only [List.getElem?_toArray, List.getElem?_cons_succ, List.getElem?_cons_zero]; rfl) (by kernel_rfl) (by kernel_rfl) (by kernel_rfl) (by intro _ _ _ h; exact h) (Or.inl ⟨by rfl, (by intro w' hSw; (try dsimp only at hSw); go_simp; first | done | with_reducible rfl)⟩) (by assumption) ?_; (try simp only [Act.put, List.setIfInBounds_toArray, List.set_cons_zero, List.set_cons_succ]))
      refine wpH_take (i := 5) (v := .agg (keyL x2 x3).toArray) (by simp only [List.getElem?_toArray, List.getElem?_cons_succ, List.getElem?_cons_zero]; rfl) (by kernel_rfl) (by kernel_rfl) (by kernel_rfl) (by intro _ _ _ h; exact h) (yieldsIf_load_mid (by rfl) 24 _ (by rfl) w.heap.size 3 (by rfl) (keyL x2 x3) _ (fun w' h => Blk.mid h.1 3 (keyL x2 x3) rfl) Tryd.underlying24 rfl sizeKey) (by assumption) ?_
      (try simp only [Act.put, List.setIfInBounds_toArray, List.set_cons_zero, List.set_cons_succ])
      (refine wpH_one (i := 3) (by simp only [List.getElem?_toArray, List.getElem?_cons_succ, List.getElem?_cons_zero]; rfl) (by kernel_rfl) (by rfl) ?_; (refine wp_append_xb (.tmp 52) (.tmp 53) (by rfl) 2 2 k d (by rfl) (by rfl) rfl hUl TB.drew (fun ad e j u hu => hUc ad e j u hu) hBn (fun t ht => (hUX t ht).drew) (by have := hML.out; omega) (Nat.le_of_lt z6) ?_; intro A7 c7 w7 X7 b7; refine ⟨⟨K6.drew.below b7 zK5, P6.drew.below b7 zP5⟩, ?_⟩); (try simp only [Act.put, List.setIfInBounds_toArray, List.set_cons_zero, List.set_cons_succ]))
      have b7' : Below w5.heap.size w6 w7 := (Below.refl _ w6).drew.trans b7
      have K7 := K6.below b7' zK5
      have P7 := P6.below b7' zP5
      have R7 := R6.below b7' zR5
      have B7 := B6.trans (b7'.mono zw5)
      have hH7 : Blk w7 w.heap.size 46 (tktL Ai ni ci x0 x1 x2 x3) ∧ Blk w7 n1 27 [.int .i64 l, .int .i64 v, .int .i64 m, .int .i64 st, .int .i64 po, .int .i64 pr, .int .u32 rd, .int .u32 rp, .int .u32 id, .int .u64 ref, .int .u64 org, .int .u64 rec, .int .u64 xmt] := ⟨K7, P7⟩
      have zw7 : w5.heap.size ≤ w7.heap.size := Nat.le_trans (Nat.le_of_lt z6) b7'.size
      have XX := X7.xs zw7
      have hcap := X7.cap
      have hfl : flds ([((260, id'), (Ai, ci)), ((772, CK), (A5, c5))] ++ U) = rpF id' CK L := by
        unfold rpF
        rw [← hU]
        simp [flds]
      rw [hfl] at XX
      have hrl : (rpF id' CK L).length = 2 + k := by unfold rpF; rw [List.length_append, hL]; rfl
      rw [List.length_append] at hcap
      simp only [List.length_cons, List.length_nil, hUl] at hcap
      have hSL := hMs A7 (2 + k) c7 w7 hrl XX (by omega) hcap.2.1 R7
      (refine wpH_one (i := 6) (by simp only [List.getElem?_toArray, List.getElem?_cons_succ, List.getElem?_cons_zero]; rfl) (by kernel_rfl) (by rfl) ?_; (go_simp; (with_reducible refine hSL.mono ?_); rintro e w8 ⟨A8, c8, N8, rfl, h8, O8, b8⟩; refine ⟨⟨K7.below b8 K7.lt, P7.below b8 P7.lt⟩, ?_⟩); (try simp only [Act.put, List.setIfInBounds_toArray, List.set_cons_zero, List.set_cons_succ]))
      have hH8 : Blk w8 w.heap.size 46 (tktL Ai ni ci x0 x1 x2 x3) ∧ Blk w8 n1 27 [.int .i64 l, .int .i64 v, .int .i64 m, .int .i64 st, .int .i64 po, .int .i64 pr, .int .u32 rd, .int .u32 rp, .int .u32 id, .int .u64 ref, .int .u64 org, .int .u64 rec, .int .u64 xmt] := ⟨K7.below b8 K7.lt, P7.below b8 P7.lt⟩
      (refine wpH_take (i := 7) (v := _) (by simp only [List.getElem?_toArray, List.getElem?_cons_succ, List.getElem?_cons_zero]; rfl) (by kernel_rfl) (by kernel_rfl) (by kernel_rfl) (by intro _ _ _ h; exact h) (Or.inl ⟨by rfl, (by intro w' hSw; (try dsimp only at hSw); go_simp; first | done | with_reducible rfl)⟩) (by assumption) ?_; (try simp only [Act.put, List.setIfInBounds_toArray, List.set_cons_zero, List.set_cons_succ]))
      (refine wpH_take (i := 8) (v := _) (by simp only [List.getElem?_toArray, List.getElem?_cons_succ, List.getElem?_cons_zero]; rfl) (by kernel_rfl) (by kernel_rfl) (by kernel_rfl) (by intro _ _ _ h; exact h) (Or.inl ⟨by rfl, (by intro w' hSw; (try dsimp only at hSw); go_simp; first | done | with_reducible rfl)⟩) (by assumption) ?_; (try simp only [Act.put, List.setIfInBounds_toArray, List.set_cons_zero, List.set_cons_succ]))
      (refine wpH_take (i := 9) (v := _) (by simp only [List.getElem?_toArray, List.getElem?_cons_succ, List.getElem?_cons_zero]; rfl) (by kernel_rfl) (by kernel_rfl) (by kernel_rfl) (by intro _ _ _ h; exact h) (Or.inl ⟨by rfl, (by intro w' hSw; (try dsimp only at hSw); go_simp; first | done | with_reducible rfl)⟩) (by assumption) ?_; (try simp only [Act.put, List.setIfInBounds_toArray, List.set_cons_zero, List.set_cons_succ]))
      (refine wpH_take (i := 10) (v := _) (by simp only [List.getElem?_toArray, List.getElem?_cons_succ, List.getElem?_cons_zero]; rfl) (by kernel_rfl) (by kernel_rfl) (by kernel_rfl) (by intro _ _ _ h; exact h) (Or.inl ⟨by rfl, (by intro w' hSw; (try dsimp only at hSw); go_simp; first | done | with_reducible rfl)⟩) (by assumption) ?_; (try simp only [Act.put, List.setIfInBounds_toArray, List.set_cons_zero, List.set_cons_succ]))
      refine wpH_done (by kernel_rfl) ?_ _
      have B8 := B7.trans (b8.mono B7.size)
      have O8' := O8.wide B7.size
      clear hHeld hH7 hH8 hSL XX X7 hfl hMs K6 K7 P6 P7 R6 R7 TB hUc hUX
      go_wp2_with fail
      go_ret2
      exact ⟨A8, c8, N8, rfl, h8, O8', B8⟩
end Go.Proofs.YtkccmmhofhaccaaDoor
namespace Go.Proofs.YtkccmmhofhaccaaDoor
open Go.RowKit
set_option linter.unusedSimpArgs false
set_option linter.unusedVariables false
set_option maxRecDepth 100000
theorem msg_all (l v m st po pr rd rp id ref org rec xmt : Int) (L : Flds) (k0 k1 : Int) (hk : nchk l v m st po pr = 0) (h6 : 0 ≤ rd ∧ rd ≤ 4294967295) (h7 : 0 ≤ rp ∧ rp ≤ 4294967295) (h8 : 0 ≤ id ∧ id ≤ 4294967295) (h9 : 0 ≤ ref ∧ ref ≤ 18446744073709551615) (h10 : 0 ≤ org ∧ org ≤ 18446744073709551615) (h11 : 0 ≤ rec ∧ rec ≤ 18446744073709551615) (h12 : 0 ≤ xmt ∧ xmt ≤ 18446744073709551615) (hv : AllV L) (h16 : L.length ≤ 16) (hid : (fdD L 260).length = 16) :
    spE (msgB l v m st po pr rd rp id ref org rec xmt L k0 k1) = 0 ∧ dcV (msgB l v m st po pr rd rp id ref org rec xmt L k0 k1) = ntp l v m st po pr rd rp id ref org rec xmt ∧ spL (msgB l v m st po pr rd rp id ref org rec xmt L k0 k1) = L ∧ spI (msgB l v m st po pr rd rp id ref org rec xmt L k0 k1) = fdD L 260 ∧ spA (msgB l v m st po pr rd rp id ref org rec xmt L k0 k1) = athB k0 k1 (bdyB l v m st po pr rd rp id ref org rec xmt L) ∧ spB (msgB l v m st po pr rd rp id ref org rec xmt L k0 k1) = bdyB l v m st po pr rd rp id ref org rec xmt L ∧ spC (msgB l v m st po pr rd rp id ref org rec xmt L k0 k1) = fdD L 516 := by
  obtain ⟨e1, e2, e3, e4, e5⟩ := msg_split l v m st po pr rd rp id ref org rec xmt L k0 k1 hk h6 h7 h8 h9 h10 h11 h12 hv h16
  have eI : spI (msgB l v m st po pr rd rp id ref org rec xmt L k0 k1) = fdD L 260 := by unfold spI; rw [e4]
  refine ⟨?_, e2, e4, eI, e5, msg_body l v m st po pr rd rp id ref org rec xmt L k0 k1, by unfold spC; rw [e4]⟩
  rcases spE_cases (msgB l v m st po pr rd rp id ref org rec xmt L k0 k1) with ⟨h1, h2⟩ | ⟨h1, h2, h3⟩ | ⟨h1, h2, h3, h4⟩ | ⟨h1, h2, h3, h4, h5⟩
  · exact absurd e1 h1
  · exact absurd e3 h2
  · exact absurd ⟨by rw [e5]; exact athB_len _ _ _, by rw [eI]; exact hid⟩ h3
  · exact h5
theorem msg_prv (l v m st po pr rd rp id ref org rec xmt : Int) (L : Flds) (k0 k1 : Int) (hk : nchk l v m st po pr = 0) (h6 : 0 ≤ rd ∧ rd ≤ 4294967295) (h7 : 0 ≤ rp ∧ rp ≤ 4294967295) (h8 : 0 ≤ id ∧ id ≤ 4294967295) (h9 : 0 ≤ ref ∧ ref ≤ 18446744073709551615) (h10 : 0 ≤ org ∧ org ≤ 18446744073709551615) (h11 : 0 ≤ rec ∧ rec ≤ 18446744073709551615) (h12 : 0 ≤ xmt ∧ xmt ≤ 18446744073709551615) (hv : AllV L) (h16 : L.length ≤ 16) (hid : (fdD L 260).length = 16) :
    prvB k0 k1 (spB (msgB l v m st po pr rd rp id ref org rec xmt L k0 k1)) (spA (msgB l v m st po pr rd rp id ref org rec xmt L k0 k1)) = true := by
  obtain ⟨_, _, _, _, e5, e6, _⟩ := msg_all l v m st po pr rd rp id ref org rec xmt L k0 k1 hk h6 h7 h8 h9 h10 h11 h12 hv h16 hid
  rw [e5, e6]
  exact ath_self _ _ _
theorem rqF_fd (n x : Int) (ck : List Int) : fdD (rqF n x ck) 260 = idB n x ∧ fdD (rqF n x ck) 516 = ck := ⟨rfl, rfl⟩
theorem rpF_fd (id ck : List Int) (L : Flds) : fdD (rpF id ck L) 260 = id := rfl
theorem rpF_frs (id ck : List Int) (L : Flds) : frs (rpF id ck L) = ck :: frs L := rfl
theorem rqF_valid (n x : Int) {ck : List Int} (h : ck.length = 52) (hb : Byt ck) : AllV (rqF n x ck) ∧ (rqF n x ck).length ≤ 16 := by
  refine ⟨fun t ht => ?_, by simp [rqF]⟩
  have hi := idB_len n x
  have : t = (260, idB n x) ∨ t = (516, ck) := by simpa [rqF] using ht
  rcases this with rfl | rfl
  · exact ⟨by simp [chkE, hi], idB_byt _ _⟩
  · exact ⟨by simp [chkE, h], hb⟩
theorem rpF_valid {id ck : List Int} {L : Flds} (h1 : id.length = 16) (h2 : ck.length = 52) (b1 : Byt id) (b2 : Byt ck) (h3 : AllV L) (h4 : L.length ≤ 14) : AllV (rpF id ck L) ∧ (rpF id ck L).length ≤ 16 := by
  refine ⟨fun t ht => ?_, by unfold rpF; rw [List.length_append]; simp only [List.length_cons, List.length_nil]; omega⟩
  unfold rpF at ht
  rw [List.mem_append] at ht
  rcases ht with ht | ht
  · have : t = (260, id) ∨ t = (772, ck) := by simpa using ht
    rcases this with rfl | rfl
    · exact ⟨by simp [chkE, h1], b1⟩
    · exact ⟨by simp [chkE, h2], b2⟩
  · exact h3 t ht
/-! ### what lies outside of a client -/
def Nw (w : World) (G G' : List Nat) : Prop := ∀ g ∈ G', g ∈ G ∨ w.heap.size ≤ g
theorem Nw.out {w : World} {G G' : List Nat} (h : Nw w G G') {k : Nat} (hk : k < w.heap.size) (hn : k ∉ G) : k ∉ G' := fun hm => (h k hm).elim hn (fun q => by omega)
def BlG (w : World) (G : List Nat) (k : Nat) (t : TypeId) (cs : List Value) : Prop := Blk w k t cs ∧ k ∉ G
section
variable {w w' : World} {G G' : List Nat} {k : Nat} {t : TypeId} {cs : List Value}
theorem BlG.go (h : BlG w G k t cs) (hk : Kp w G w') (hn : Nw w G G') : BlG w' G' k t cs := ⟨hk.blk h.1 h.2, hn.out h.1.lt h.2⟩
theorem BlG.below (h : BlG w G k t cs) (hb : Below w.heap.size w w') : BlG w' G k t cs := ⟨h.1.below hb h.1.lt, h.2⟩
theorem BlG.but {g : Nat} (h : BlG w G k t cs) (hb : But g w w') (hg : k ≠ g) : BlG w' G k t cs := ⟨h.1.but hb hg, h.2⟩
theorem Ck.go {lo : Nat} {u : CkT} (h : Ck w lo G u) (hk : Kp w G w') (hn : Nw w G G') : Ck w' lo G' u := h.kp hk h.2 (hn.out h.lt.2 h.2)
theorem Ck.below {lo : Nat} {u : CkT} (h : Ck w lo G u) (hb : Below w.heap.size w w') : Ck w' lo G u := h.kp (H := []) (Kp.of_below hb) (by simp) h.2
theorem Ck.but {lo g : Nat} {u : CkT} (h : Ck w lo G u) (hb : But g w w') (hg : u.1 ≠ g) : Ck w' lo G u := h.kp (H := [g]) (Kp.of_but hb (.inr (by simp))) (by simpa using hg) h.2
theorem Rnd.go (h : Rnd w) (hk : Kp w G w') (hn : 0 ∉ G) : Rnd w' := hk.rnd h hn
end
/-- a client: its block, its blocks, its keys, cookies, number and waiting identifiers -/
def Cli (w : World) (lo b : Nat) (G : List Nat) (k0 k1 k2 k3 : Int) (CK : List (List Int)) (N : Int) (I : List (List Int)) : Prop :=
  ∃ (g1 g2 : Nat) (T : List CkT) (A : Option Addr) (n c : Nat) (A2 : Option Addr) (n2 c2 : Nat), G = [b, g1, g2] ∧ T.map (fun t : CkT => t.2.2) = CK ∧ ClX w lo b g1 g2 k0 k1 k2 k3 T N I A n c A2 n2 c2
section
variable {w w' : World} {lo b : Nat} {G : List Nat} {k0 k1 k2 k3 N : Int} {CK I : List (List Int)}
theorem Cli.below (h : Cli w lo b G k0 k1 k2 k3 CK N I) (hb : Below w.heap.size w w') : Cli w' lo b G k0 k1 k2 k3 CK N I := by
  obtain ⟨g1, g2, T, A, n, c, A2, n2, c2, e1, e2, h⟩ := h
  exact ⟨g1, g2, T, A, n, c, A2, n2, c2, e1, e2, h.below hb (Nat.le_refl _)⟩
theorem Cli.rng (h : Cli w lo b G k0 k1 k2 k3 CK N I) : ∀ g ∈ G, lo ≤ g ∧ g < w.heap.size := by
  obtain ⟨g1, g2, T, A, n, c, A2, n2, c2, rfl, e2, h⟩ := h
  intro g hg
  have h1 := h.lob
  have h2 := h.lo1
  have h3 := h.lo2
  have h4 := h.lt1
  have h5 := h.lt2
  have h6 := h.blk.lt
  have : g = b ∨ g = g1 ∨ g = g2 := by simpa using hg
  rcases this with rfl | rfl | rfl <;> omega
theorem Cli.low {k : Nat} (h : Cli w lo b G k0 k1 k2 k3 CK N I) (hk : k < lo) : k ∉ G := fun hm => by have := (h.rng k hm).1; omega
/-- a block of another kind is none of the client's: by its number -/
theorem Cli.below0 {w0 : World} (h : Cli w lo b G k0 k1 k2 k3 CK N I) (hk : Kp w G w') (hb : Below lo w0 w) : Below lo w0 w' := hk.toBelow hb (by have := h.rng b (by obtain ⟨g1, g2, _, _, _, _, _, _, _, rfl, _⟩ := h; simp); omega) (fun g hg => (h.rng g hg).1)
theorem Cli.lens (h : Cli w lo b G k0 k1 k2 k3 CK N I) : (∀ d ∈ CK, d.length = 52 ∧ Byt d) ∧ ∀ l ∈ I, l.length = 16 ∧ Byt l := by
  obtain ⟨g1, g2, T, A, n, c, A2, n2, c2, rfl, rfl, h⟩ := h
  refine ⟨fun d hd => ?_, h.wt⟩
  obtain ⟨t, ht, rfl⟩ := List.mem_map.1 hd
  exact ⟨(h.ck t ht).2, (h.ck t ht).1.1.1⟩
end
theorem creq {w : World} {lo b : Nat} {G : List Nat} {k0 k1 k2 k3 N : Int} {ck : List Int} {CK I : List (List Int)} (l v m st po pr rd rp id ref org rec xmt nonce : Int) (h : Cli w lo b G k0 k1 k2 k3 (ck :: CK) N I) (hE : nchk l v m st po pr = 0) (h6 : 0 ≤ rd ∧ rd ≤ 4294967295) (h7 : 0 ≤ rp ∧ rp ≤ 4294967295) (h8 : 0 ≤ id ∧ id ≤ 4294967295) (h9 : 0 ≤ ref ∧ ref ≤ 18446744073709551615) (h10 : 0 ≤ org ∧ org ≤ 18446744073709551615) (h11 : 0 ≤ rec ∧ rec ≤ 18446744073709551615) (h12 : 0 ≤ xmt ∧ xmt ≤ 18446744073709551615)
    (hk0 : U64 k0) (hk1 : U64 k1) (hN : 0 ≤ N ∧ N < 18446744073709551615) (hno : U64 nonce) (hR : Rnd w) (hlo : 0 < lo) (hn8 : CK.length + 1 ≤ 8) (hn28 : I.length ≤ 8) :
    Calls Tryd.prog 7 #[.pointer (some ⟨b, 0, none⟩), ntp l v m st po pr rd rp id ref org rec xmt, .int .u64 nonce] w fun e w' => ∃ r c' Nn G', e = .returned (.tuple #[.slice (some ⟨r, 0, none⟩) Nn c', .int .i64 0]) ∧ (msgB l v m st po pr rd rp id ref org rec xmt (rqF (N + 1) nonce ck) k0 k1).length = Nn ∧
      Ck w' w.heap.size G' (r, c', msgB l v m st po pr rd rp id ref org rec xmt (rqF (N + 1) nonce ck) k0 k1) ∧ Cli w' lo b G' k0 k1 k2 k3 CK (N + 1) (wtN I (idB (N + 1) nonce)) ∧ Kp w G w' ∧ Nw w G G' := by
  obtain ⟨g1, g2, T, A, n, c, A2, n2, c2, rfl, e2, h⟩ := h
  match T, e2 with
  | t0 :: T, e2 =>
    simp only [List.map_cons, List.cons.injEq] at e2
    obtain ⟨rfl, rfl⟩ := e2
    have hn : n = T.length + 1 := by have := h.tn; simpa using this.symm
    rw [List.length_map] at hn8
    refine (req_ok l v m st po pr rd rp id ref org rec xmt nonce w h hE h6 h7 h8 h9 h10 h11 h12 hk0 hk1 hN hno hR hlo (by omega) (by rw [← h.wn]; exact hn28)).mono fun e w' ⟨r, c', Nn, g2', A', c1', A2', n2', c2', q1, q2, q3, q4, q5, q6⟩ => ?_
    refine ⟨r, c', Nn, [b, g1, g2'], q1, q2, q3, ⟨g1, g2', T, A', n - 1, c1', A2', n2', c2', rfl, rfl, q4⟩, q5, fun g hg => ?_⟩
    have : g = b ∨ g = g1 ∨ g = g2' := by simpa using hg
    rcases this with rfl | rfl | rfl
    · exact .inl (by simp)
    · exact .inl (by simp)
    · rcases q6 with q6 | q6
      · exact .inl (by rw [q6]; simp)
      · exact .inr q6
theorem creq_empty {w : World} {lo b : Nat} {G : List Nat} {k0 k1 k2 k3 N : Int} {I : List (List Int)} (l v m st po pr rd rp id ref org rec xmt nonce : Int) (h : Cli w lo b G k0 k1 k2 k3 [] N I) (hE : nchk l v m st po pr = 0) :
    Calls Tryd.prog 7 #[.pointer (some ⟨b, 0, none⟩), ntp l v m st po pr rd rp id ref org rec xmt, .int .u64 nonce] w fun e w' => e = .returned (.tuple #[.slice none 0 0, .int .i64 14]) ∧ Below w.heap.size w w' := by
  obtain ⟨g1, g2, T, A, n, c, A2, n2, c2, rfl, e2, h⟩ := h
  obtain rfl : T = [] := by simpa using e2
  obtain rfl : n = 0 := by have := h.tn; simpa using this.symm
  exact req_empty l v m st po pr rd rp id ref org rec xmt nonce w h hE
theorem cacc {w : World} {lo b : Nat} {G : List Nat} {k0 k1 k2 k3 N : Int} {CK I : List (List Int)} (A : Option Addr) (n c : Nat) (R : List Int) (l v m st po pr rd rp id ref org rec xmt : Int) (h : Cli w lo b G k0 k1 k2 k3 CK N I) (hk2 : U64 k2) (hk3 : U64 k3) (hR : Rnd w) (hn8 : CK.length ≤ 8) (hn28 : I.length ≤ 8)
    (hn : R.length = n) (hB : Bs w 0 w.heap.size A R) (hnc : n ≤ c) (hc : c ≤ 9223372036854775807) (hm : n ≤ 1000000) (hE : spE R = 0) (hV : dcV R = ntp l v m st po pr rd rp id ref org rec xmt) (hT : prvB k2 k3 (spB R) (spA R) = true) (k : Nat) (hk : k < I.length) (hF : fiI I (spI R) = k) (hFr : frB (spL R) = true) :
    Calls Tryd.prog 15 #[.pointer (some ⟨b, 0, none⟩), .slice A n c] w fun e w' => ∃ P1 p1 q1 G', e = .returned (.tuple #[ntp l v m st po pr rd rp id ref org rec xmt, .slice P1 p1 q1, .int .i64 0]) ∧ (spL R).length = p1 ∧ XO w' w.heap.size P1 q1 (spL R) ∧
      Cli w' lo b G' k0 k1 k2 k3 (ckN CK (frs (spL R))) N (I.take k ++ I.drop (k + 1)) ∧ Kp w G w' ∧ Nw w G G' := by
  obtain ⟨g1, g2, T, Ac, nc, cc, A2, n2, c2, rfl, rfl, h⟩ := h
  rw [List.length_map, h.tn] at hn8
  rw [h.wn] at hn28 hk
  refine (acc_some w h hk2 hk3 hR hn8 hn28 A n c R hn hB hnc hc hm hE l v m st po pr rd rp id ref org rec xmt hV hT k hk hF).mono fun e w' hh => ?_
  rcases hh with ⟨h1, _⟩ | ⟨_, g1', T', Ac', nc', cc', c2c', P1, p1, q1, z1, z2, z3, z4, z5, z6, z7⟩
  · rw [h1] at hFr; cases hFr
  · refine ⟨P1, p1, q1, [b, g1', g2], z1, z2, z3, ⟨g1', g2, T', Ac', nc', cc', A2, n2 - 1, c2c', rfl, z5, z4⟩, z6, fun g hg => ?_⟩
    have : g = b ∨ g = g1' ∨ g = g2 := by simpa using hg
    rcases this with rfl | rfl | rfl
    · exact .inl (by simp)
    · rcases z7 with q6 | q6
      · exact .inl (by rw [q6]; simp)
      · exact .inr q6
    · exact .inl (by simp)
theorem cacc_none {w : World} {lo b : Nat} {G : List Nat} {k0 k1 k2 k3 N : Int} {CK I : List (List Int)} (A : Option Addr) (n c : Nat) (R : List Int) (l v m st po pr rd rp id ref org rec xmt : Int) (h : Cli w lo b G k0 k1 k2 k3 CK N I) (hk2 : U64 k2) (hk3 : U64 k3) (hR : Rnd w) (hn8 : CK.length ≤ 8) (hn28 : I.length ≤ 8)
    (hn : R.length = n) (hB : Bs w 0 w.heap.size A R) (hnc : n ≤ c) (hc : c ≤ 9223372036854775807) (hm : n ≤ 1000000) (hE : spE R = 0) (hV : dcV R = ntp l v m st po pr rd rp id ref org rec xmt) (hT : prvB k2 k3 (spB R) (spA R) = true) (hF : fiI I (spI R) = -1) :
    Calls Tryd.prog 15 #[.pointer (some ⟨b, 0, none⟩), .slice A n c] w fun e w' => e = .returned (.tuple #[ntp0, .slice none 0 0, .int .i64 11]) ∧ Below w.heap.size w w' := by
  obtain ⟨g1, g2, T, Ac, nc, cc, A2, n2, c2, rfl, rfl, h⟩ := h
  rw [List.length_map, h.tn] at hn8
  rw [h.wn] at hn28
  exact acc_none w h hk2 hk3 hR hn8 hn28 A n c R hn hB hnc hc hm hE l v m st po pr rd rp id ref org rec xmt hV hT hF
theorem cacc_tag {w : World} {lo b : Nat} {G : List Nat} {k0 k1 k2 k3 N : Int} {CK I : List (List Int)} (A : Option Addr) (n c : Nat) (R : List Int) (l v m st po pr rd rp id ref org rec xmt : Int) (h : Cli w lo b G k0 k1 k2 k3 CK N I) (hk2 : U64 k2) (hk3 : U64 k3) (hR : Rnd w) (hn8 : CK.length ≤ 8) (hn28 : I.length ≤ 8)
    (hn : R.length = n) (hB : Bs w 0 w.heap.size A R) (hnc : n ≤ c) (hc : c ≤ 9223372036854775807) (hm : n ≤ 1000000) (hE : spE R = 0) (hV : dcV R = ntp l v m st po pr rd rp id ref org rec xmt) (hT : prvB k2 k3 (spB R) (spA R) = false) :
    Calls Tryd.prog 15 #[.pointer (some ⟨b, 0, none⟩), .slice A n c] w fun e w' => e = .returned (.tuple #[ntp0, .slice none 0 0, .int .i64 16]) ∧ Below w.heap.size w w' := by
  obtain ⟨g1, g2, T, Ac, nc, cc, A2, n2, c2, rfl, rfl, h⟩ := h
  rw [List.length_map, h.tn] at hn8
  rw [h.wn] at hn28
  exact acc_tag w h hk2 hk3 hR hn8 hn28 A n c R hn hB hnc hc hm hE l v m st po pr rd rp id ref org rec xmt hV hT
theorem ccount {w : World} {lo b : Nat} {G : List Nat} {k0 k1 k2 k3 N : Int} {CK I : List (List Int)} (h : Cli w lo b G k0 k1 k2 k3 CK N I) :
    Calls Tryd.prog 8 #[.pointer (some ⟨b, 0, none⟩)] w fun e w' => e = .returned (.int .i64 CK.length) ∧ w = w' := by
  obtain ⟨g1, g2, T, Ac, nc, cc, A2, n2, c2, rfl, rfl, h⟩ := h
  rw [List.length_map, h.tn]
  exact cookies_ok w h
theorem cnew (k0 k1 k2 k3 : Int) (B : Option Addr) (m d : Nat) (M : List (List Int)) (w : World) (hm : m ≤ 8) (hM : M.length = m) (hL : Ls w w.heap.size B M) (hmd : m ≤ d) (h52 : ∀ l ∈ M, l.length = 52) :
    Calls Tryd.prog 6 #[keyV k0 k1, keyV k2 k3, .slice B m d] w fun e w' => ∃ b G, e = .returned (.pointer (some ⟨b, 0, none⟩)) ∧ Cli w' w.heap.size b G k0 k1 k2 k3 M 0 [] ∧ Below w.heap.size w w' := by
  refine (newcl_any k0 k1 k2 k3 B m d M w hm hM hL hmd).mono fun e w' hh => ?_
  rcases hh with ⟨_, ⟨l, hl, h1⟩, _⟩ | ⟨b, g1, T, A, n, c, h1, h2, h3, h4⟩
  · exact absurd (h52 l hl) h1
  · exact ⟨b, [b, g1, b], h1, ⟨g1, b, T, A, n, c, none, 0, 0, rfl, h3, h2⟩, h4⟩
end Go.Proofs.YtkccmmhofhaccaaDoor
namespace Go.Proofs.YtkccmmhofhaccaaDoor
open Go.RowKit
set_option linter.unusedSimpArgs false
set_option linter.unusedVariables false
set_option maxRecDepth 100000
theorem opV_parts {s k g k0 k1 k2 k3 E : Int} {l : List Int} (h : opV s k g l = .tuple #[keyV k0 k1, keyV k2 k3, .int .i64 E]) : opE s k g l = E ∧ opK s k g l 0 = k0 ∧ opK s k g l 1 = k1 ∧ opK s k g l 2 = k2 ∧ opK s k g l 3 = k3 := by
  rw [opV_val] at h
  simp only [Value.tuple.injEq, Array.mk.injEq, List.cons.injEq, Value.agg.injEq, Value.int.injEq, true_and, and_true] at h
  obtain ⟨⟨h0, h1⟩, ⟨h2, h3⟩, h4⟩ := h
  exact ⟨h4, h0, h1, h2, h3⟩
theorem sopen (l v m st po pr rd rp id ref org rec xmt n x : Int) (ck : List Int) (k0 k1 k2 k3 s kk g : Int) (bj : Nat) (A : Option Addr) (N c : Nat) (w : World) (hJ : Blk w bj 56 (jarL s kk g)) (hs : U64 s) (hg : Gn g) (hkk : 1 ≤ kk ∧ kk ≤ 8) (hR : Rnd w) (hE : nchk l v m st po pr = 0) (h6 : 0 ≤ rd ∧ rd ≤ 4294967295) (h7 : 0 ≤ rp ∧ rp ≤ 4294967295) (h8 : 0 ≤ id ∧ id ≤ 4294967295) (h9 : 0 ≤ ref ∧ ref ≤ 18446744073709551615) (h10 : 0 ≤ org ∧ org ≤ 18446744073709551615) (h11 : 0 ≤ rec ∧ rec ≤ 18446744073709551615) (h12 : 0 ≤ xmt ∧ xmt ≤ 18446744073709551615)
    (h52 : ck.length = 52) (hcb : Byt ck) (hop : opV s kk g ck = .tuple #[keyV k0 k1, keyV k2 k3, .int .i64 0]) (hn : (msgB l v m st po pr rd rp id ref org rec xmt (rqF n x ck) k0 k1).length = N) (hB : Bs w 0 w.heap.size A (msgB l v m st po pr rd rp id ref org rec xmt (rqF n x ck) k0 k1)) (hnc : N ≤ c) (hc : c ≤ 9223372036854775807) (hm : N ≤ 1000000) :
    Calls Tryd.prog 12 #[.pointer (some ⟨bj, 0, none⟩), .slice A N c] w fun e w' => ∃ r c', e = .returned (.tuple #[ntp l v m st po pr rd rp id ref org rec xmt, .agg (tktL (some ⟨r, 0, none⟩) 16 c' k0 k1 k2 k3).toArray, .int .i64 0]) ∧ Ow w' w.heap.size (some ⟨r, 0, none⟩) c' (idB n x) ∧ Below w.heap.size w w' := by
  obtain ⟨hv, h16⟩ := rqF_valid n x h52 hcb
  have hid : (fdD (rqF n x ck) 260).length = 16 := by rw [(rqF_fd n x ck).1]; exact idB_len n x
  obtain ⟨e1, e2, e3, e4, e5, e6, e7⟩ := msg_all l v m st po pr rd rp id ref org rec xmt (rqF n x ck) k0 k1 hE h6 h7 h8 h9 h10 h11 h12 hv h16 hid
  have hp := msg_prv l v m st po pr rd rp id ref org rec xmt (rqF n x ck) k0 k1 hE h6 h7 h8 h9 h10 h11 h12 hv h16 hid
  rw [(rqF_fd n x ck).1] at e4
  rw [(rqF_fd n x ck).2] at e7
  obtain ⟨o0, o1, o2, o3, o4⟩ := opV_parts hop
  have h := gopen_ok bj s kk g A N c _ w hJ hs hg hkk hR hn hB hnc hc hm e1 l v m st po pr rd rp id ref org rec xmt e2 (by rw [e7]; exact h52) (by rw [e7]; exact o0) (by rw [e7, o1, o2]; exact hp)
  rw [e7, o1, o2, o3, o4, e4] at h
  exact h
theorem sreply (l v m st po pr rd rp id ref org rec xmt nonce : Int) (id' : List Int) (k0 k1 k2 k3 s kk g : Int) (bj : Nat) (r ci : Nat) (w : World) (hJ : Blk w bj 56 (jarL s kk g)) (hs : U64 s) (hg : Gn g) (hR : Rnd w) (hE : nchk l v m st po pr = 0) (h6 : 0 ≤ rd ∧ rd ≤ 4294967295) (h7 : 0 ≤ rp ∧ rp ≤ 4294967295) (h8 : 0 ≤ id ∧ id ≤ 4294967295) (h9 : 0 ≤ ref ∧ ref ≤ 18446744073709551615) (h10 : 0 ≤ org ∧ org ≤ 18446744073709551615) (h11 : 0 ≤ rec ∧ rec ≤ 18446744073709551615) (h12 : 0 ≤ xmt ∧ xmt ≤ 18446744073709551615) (hno : U64 nonce) (hk0 : U64 k0) (hk1 : U64 k1) (hk2 : U64 k2) (hk3 : U64 k3)
    (hil : id'.length = 16) (hI : Bs w 0 w.heap.size (some ⟨r, 0, none⟩) id') (hic : 16 ≤ ci) (hicc : ci ≤ 9223372036854775807) :
    Calls Tryd.prog 14 #[.pointer (some ⟨bj, 0, none⟩), .agg (tktL (some ⟨r, 0, none⟩) 16 ci k0 k1 k2 k3).toArray, ntp l v m st po pr rd rp id ref org rec xmt, .slice none 0 0, .int .u64 nonce] w fun e w' => ∃ A c n, e = .returned (.tuple #[.slice A n c, .int .i64 0]) ∧ (msgB l v m st po pr rd rp id ref org rec xmt (rpF id' (ckB s g nonce k0 k1 k2 k3) []) k2 k3).length = n ∧ Ow w' w.heap.size A c (msgB l v m st po pr rd rp id ref org rec xmt (rpF id' (ckB s g nonce k0 k1 k2 k3) []) k2 k3) ∧ Below w.heap.size w w' :=
  greply_ok bj (some ⟨r, 0, none⟩) 16 ci k0 k1 k2 k3 l v m st po pr rd rp id ref org rec xmt nonce none 0 0 [] w rfl Xs.nil (Nat.le_refl _) (by omega) (fun k hk => absurd hk (by omega)) s kk g id' hJ hs hg hR hno hk0 hk1 hk2 hk3 (fun _ => rfl) hI hil hic hicc (fun h => by cases h) h6 h7 h8 h9 h10 h11 h12 (by rw [hE]; rfl)
end Go.Proofs.YtkccmmhofhaccaaDoor
namespace Go.Proofs.YtkccmmhofhaccaaDoor
open Go.RowKit
set_option linter.unusedSimpArgs false
set_option linter.unusedVariables false
set_option maxRecDepth 100000
/-- the cookie of the examples -/
def exCK (n : Int) : List Int := ckB 5 1 n 1 2 3 4
theorem ex_u : U64 1 ∧ U64 2 ∧ U64 3 ∧ U64 4 ∧ U64 5 := by unfold U64; omega
theorem exCK_op (n : Int) (hn : U64 n) : opV 5 2 1 (exCK n) = .tuple #[keyV 1 2, keyV 3 4, .int .i64 0] := by
  have h := ck_open (s := 5) (k := 2) (g' := 1) (g := 1) (n := n) (c0 := 1) (c1 := 2) (s0 := 3) (s1 := 4) ⟨by omega, by omega⟩ hn ex_u.1 ex_u.2.1 ex_u.2.2.1 ex_u.2.2.2.1
  unfold exCK
  rw [h]
  rfl
def exM (ck : List Int) : List Int := msgB 0 4 3 0 0 0 0 0 0 0 0 0 9 (rqF 1 7 ck) 1 2
theorem exM_len {ck : List Int} (h : ck.length = 52) : (exM ck).length = 136 := by
  unfold exM
  rw [msgB_len]
  have := idB_len 1 7
  simp [rqF, fldsB, fldB, bytesB_length, this, h]
theorem exM_at {ck : List Int} (h : ck.length = 52) : ((exM ck).drop 48).take 12 = [1, 4, 0, 20, 0, 0, 0, 0, 0, 0, 0, 1] := by
  unfold exM msgB bdyB
  rw [List.append_assoc, List.drop_left' (encH_len _ _ _ _ _ _ _ _ _ _ _ _ _)]
  have e : fldsB (rqF 1 7 ck) = [1, 4, 0, 20, 0, 0, 0, 0, 0, 0, 0, 1] ++ (bytesB 8 7 ++ fldsB [(516, ck)]) := by
    have h1 : bytesB 2 260 = [1, 4] := by decide
    have h2 : bytesB 2 20 = [0, 20] := by decide
    have h3 : bytesB 8 1 = [0, 0, 0, 0, 0, 0, 0, 1] := by decide
    have h4 : ((4 : Int) + ((idB 1 7).length : Nat)) = 20 := by rw [idB_len]; rfl
    show bytesB 2 260 ++ bytesB 2 (4 + ((idB 1 7).length : Nat)) ++ idB 1 7 ++ fldsB [(516, ck)] = _
    rw [h4, h1, h2]
    unfold idB
    rw [h3]
    simp
  rw [e, List.append_assoc]
  exact List.take_left' (l₁ := [1, 4, 0, 20, 0, 0, 0, 0, 0, 0, 0, 1]) rfl
theorem exN : nchk 0 4 3 0 0 0 = 0 := by decide
/-- a list of one byte slice -/
theorem ls_one {w : World} {g hi : Nat} {A : Option Addr} {n c : Nat} {d : List Int} (h : Blk w g 32 [.slice A n c]) (hg : g < hi) (hn : d.length = n) (hb : Bs w 0 hi A d) : Ls w hi (some ⟨g, 0, none⟩) [d] := fun _ =>
  ⟨g, 0, rfl, hg, fun k hk => by
    obtain rfl : k = 0 := by simpa using hk
    subst hn
    exact ⟨A, c, h.cell (i := 0) rfl, hb⟩⟩
theorem ex_req {lo b : Nat} {G : List Nat} {CK : List Int} {W : World} (h : Cli W lo b G 1 2 3 4 [CK] 0 []) (h52 : CK.length = 52) (hR : Rnd W) (hlo : 0 < lo) :
    Calls Tryd.prog 7 #[.pointer (some ⟨b, 0, none⟩), ntp 0 4 3 0 0 0 0 0 0 0 0 0 9, .int .u64 7] W fun e w' => ∃ r c' G', e = .returned (.tuple #[.slice (some ⟨r, 0, none⟩) 136 c', .int .i64 0]) ∧ Ck w' W.heap.size G' (r, c', exM CK) ∧ Cli w' lo b G' 1 2 3 4 [] 1 [idB 1 7] ∧ Kp W G w' ∧ Nw W G G' := by
  refine (creq 0 4 3 0 0 0 0 0 0 0 0 0 9 7 h exN (by omega) (by omega) (by omega) (by omega) (by omega) (by omega) (by omega) ex_u.1 ex_u.2.1 (by omega) (by unfold U64; omega) hR hlo (by simp) (by simp)).mono fun e w' ⟨r, c', Nn, G', q1, q2, q3, q4, q5, q6⟩ => ?_
  have hl : (msgB 0 4 3 0 0 0 0 0 0 0 0 0 9 (rqF (0 + 1) 7 CK) 1 2).length = 136 := exM_len h52
  obtain rfl : 136 = Nn := hl.symm.trans q2
  exact ⟨r, c', G', q1, q3, q4, q5, q6⟩
def exR : List Int := msgB 0 4 3 0 0 0 0 0 0 0 0 0 9 (rpF (idB 1 7) (exCK 8) []) 3 4
theorem exR_len : exR.length = 136 := by
  unfold exR
  rw [msgB_len]
  have h1 := idB_len 1 7
  have h2 : (exCK 8).length = 52 := ckB_len _ _ _ _ _ _ _
  simp [rpF, fldsB, fldB, bytesB_length, h1, h2]
theorem exR_all : spE exR = 0 ∧ dcV exR = ntp 0 4 3 0 0 0 0 0 0 0 0 0 9 ∧ spL exR = rpF (idB 1 7) (exCK 8) [] ∧ spI exR = idB 1 7 ∧ prvB 3 4 (spB exR) (spA exR) = true := by
  obtain ⟨hv, h16⟩ := rpF_valid (id := idB 1 7) (ck := exCK 8) (L := []) (idB_len 1 7) (ckB_len _ _ _ _ _ _ _) (idB_byt 1 7) (ckB_byt _ _ _ _ _ _ _) (fun t ht => by cases ht) (by simp)
  have hid : (fdD (rpF (idB 1 7) (exCK 8) []) 260).length = 16 := by rw [rpF_fd]; exact idB_len 1 7
  obtain ⟨e1, e2, e3, e4, e5, e6, e7⟩ := msg_all 0 4 3 0 0 0 0 0 0 0 0 0 9 (rpF (idB 1 7) (exCK 8) []) 3 4 exN (by omega) (by omega) (by omega) (by omega) (by omega) (by omega) (by omega) hv h16 hid
  have hp := msg_prv 0 4 3 0 0 0 0 0 0 0 0 0 9 (rpF (idB 1 7) (exCK 8) []) 3 4 exN (by omega) (by omega) (by omega) (by omega) (by omega) (by omega) (by omega) hv h16 hid
  exact ⟨e1, e2, e3, e4.trans (rpF_fd _ _ _), hp⟩
theorem ex_acc {lo b : Nat} {G : List Nat} {W : World} {A : Option Addr} {c : Nat} (h : Cli W lo b G 1 2 3 4 [] 1 [idB 1 7]) (hR : Rnd W) (hB : Bs W 0 W.heap.size A exR) (hnc : 136 ≤ c) (hc : c ≤ 9223372036854775807) :
    Calls Tryd.prog 15 #[.pointer (some ⟨b, 0, none⟩), .slice A 136 c] W fun e w' => ∃ P1 q1 G', e = .returned (.tuple #[ntp 0 4 3 0 0 0 0 0 0 0 0 0 9, .slice P1 2 q1, .int .i64 0]) ∧ Cli w' lo b G' 1 2 3 4 [exCK 8] 1 [] ∧ Kp W G w' ∧ Nw W G G' := by
  obtain ⟨e1, e2, e3, e4, e5⟩ := exR_all
  have hfr : frs (spL exR) = [exCK 8] := by rw [e3]; rfl
  refine (cacc A 136 c exR 0 4 3 0 0 0 0 0 0 0 0 0 9 h ex_u.2.2.1 ex_u.2.2.2.1 hR (by simp) (by simp) exR_len hB hnc hc (by omega) e1 e2 e5 0 (by simp) (by rw [e4]; exact fiI_some (k := 0) (by simp) rfl (fun j hj => by omega)) (by
    refine frB_yes fun d hd => ?_
    rw [hfr] at hd
    rw [List.mem_singleton.1 hd]
    exact ckB_len _ _ _ _ _ _ _)).mono fun e w' ⟨P1, p1, q1, G', z1, z2, z3, z4, z5, z6⟩ => ?_
  have hl : (spL exR).length = 2 := by rw [e3]; rfl
  obtain rfl : 2 = p1 := hl.symm.trans z2
  rw [hfr] at z4
  exact ⟨P1, q1, G', z1, z4, z5, z6⟩
theorem ex_acc2 {lo b : Nat} {G : List Nat} {CK : List (List Int)} {W : World} {A : Option Addr} {c : Nat} (h : Cli W lo b G 1 2 3 4 CK 1 []) (h8 : CK.length ≤ 8) (hR : Rnd W) (hB : Bs W 0 W.heap.size A exR) (hnc : 136 ≤ c) (hc : c ≤ 9223372036854775807) :
    Calls Tryd.prog 15 #[.pointer (some ⟨b, 0, none⟩), .slice A 136 c] W fun e w' => e = .returned (.tuple #[ntp0, .slice none 0 0, .int .i64 11]) ∧ Below W.heap.size W w' := by
  obtain ⟨e1, e2, e3, e4, e5⟩ := exR_all
  exact cacc_none A 136 c exR 0 4 3 0 0 0 0 0 0 0 0 0 9 h ex_u.2.2.1 ex_u.2.2.2.1 hR h8 (by simp) exR_len hB hnc hc (by omega) e1 e2 e5 (fiI_none (fun j hj => by simp at hj))
theorem ex_open {CK : List Int} {W : World} {bj : Nat} {A : Option Addr} {c : Nat} (hJ : Blk W bj 56 (jarL 5 2 1)) (hR : Rnd W) (h52 : CK.length = 52) (hcb : Byt CK) (hop : opV 5 2 1 CK = .tuple #[keyV 1 2, keyV 3 4, .int .i64 0]) (hB : Bs W 0 W.heap.size A (exM CK)) (hnc : 136 ≤ c) (hc : c ≤ 9223372036854775807) :
    Calls Tryd.prog 12 #[.pointer (some ⟨bj, 0, none⟩), .slice A 136 c] W fun e w' => ∃ r c', e = .returned (.tuple #[ntp 0 4 3 0 0 0 0 0 0 0 0 0 9, .agg (tktL (some ⟨r, 0, none⟩) 16 c' 1 2 3 4).toArray, .int .i64 0]) ∧ Ow w' W.heap.size (some ⟨r, 0, none⟩) c' (idB 1 7) ∧ Below W.heap.size W w' :=
  sopen 0 4 3 0 0 0 0 0 0 0 0 0 9 1 7 CK 1 2 3 4 5 2 1 bj A 136 c W hJ ex_u.2.2.2.2 ⟨by omega, by omega⟩ (by omega) hR exN (by omega) (by omega) (by omega) (by omega) (by omega) (by omega) (by omega) h52 hcb hop (exM_len h52) hB hnc hc (by omega)
theorem ex_rep {W : World} {bj r ci : Nat} (hJ : Blk W bj 56 (jarL 5 2 1)) (hR : Rnd W) (hI : Bs W 0 W.heap.size (some ⟨r, 0, none⟩) (idB 1 7)) (hic : 16 ≤ ci) (hicc : ci ≤ 9223372036854775807) :
    Calls Tryd.prog 14 #[.pointer (some ⟨bj, 0, none⟩), .agg (tktL (some ⟨r, 0, none⟩) 16 ci 1 2 3 4).toArray, ntp 0 4 3 0 0 0 0 0 0 0 0 0 9, .slice none 0 0, .int .u64 8] W fun e w' => ∃ A c, e = .returned (.tuple #[.slice A 136 c, .int .i64 0]) ∧ Ow w' W.heap.size A c exR ∧ Below W.heap.size W w' := by
  refine (sreply 0 4 3 0 0 0 0 0 0 0 0 0 9 8 (idB 1 7) 1 2 3 4 5 2 1 bj r ci W hJ ex_u.2.2.2.2 ⟨by omega, by omega⟩ hR exN (by omega) (by omega) (by omega) (by omega) (by omega) (by omega) (by omega) (by unfold U64; omega) ex_u.1 ex_u.2.1 ex_u.2.2.1 ex_u.2.2.2.1 (idB_len 1 7) hI hic hicc).mono fun e w' ⟨A, c, n, q1, q2, q3, q4⟩ => ?_
  have hl : (msgB 0 4 3 0 0 0 0 0 0 0 0 0 9 (rpF (idB 1 7) (ckB 5 1 8 1 2 3 4) []) 3 4).length = 136 := exR_len
  obtain rfl : 136 = n := hl.symm.trans q2
  exact ⟨A, c, q1, q3, q4⟩
/-- what the last expression reads -/
def ExS (w0 : World) (ka kb bp bt bq bc lo : Nat) (rt ct : Nat) (G : List Nat) (CK : List (List Int)) (y : World) : Prop :=
  Blk y bp 27 [.int .i64 0, .int .i64 4, .int .i64 3, .int .i64 0, .int .i64 0, .int .i64 0, .int .u32 0, .int .u32 0, .int .u32 0, .int .u64 0, .int .u64 0, .int .u64 0, .int .u64 9] ∧ Blk y bt 46 (tktL (some ⟨rt, 0, none⟩) 16 ct 1 2 3 4) ∧ Blk y ka 24 (keyL 1 2) ∧ Blk y kb 24 (keyL 3 4) ∧
    Blk y bq 27 [.int .i64 0, .int .i64 4, .int .i64 3, .int .i64 0, .int .i64 0, .int .i64 0, .int .u32 0, .int .u32 0, .int .u32 0, .int .u64 0, .int .u64 0, .int .u64 0, .int .u64 9] ∧ Cli y lo bc G 1 2 3 4 CK 1 [] ∧ Below w0.heap.size w0 y
theorem ExS.below {w0 y z : World} {ka kb bp bt bq bc lo rt ct : Nat} {G : List Nat} {CK : List (List Int)} (h : ExS w0 ka kb bp bt bq bc lo rt ct G CK y) (hb : Below y.heap.size y z) : ExS w0 ka kb bp bt bq bc lo rt ct G CK z := by
  obtain ⟨h1, h2, h3, h4, h5, h6, h7⟩ := h
  exact ⟨h1.below hb h1.lt, h2.below hb h2.lt, h3.below hb h3.lt, h4.below hb h4.lt, h5.below hb h5.lt, h6.below hb, h7.trans (hb.mono h7.size)⟩
end Go.Proofs.YtkccmmhofhaccaaDoor
namespace Go.Proofs.YtkccmmhofhaccaaDoor
open Go.ChangeShapes Go.WideShapes Go.ChangeAt Go.RowKit Go.Joins
set_option linter.unusedSimpArgs false
set_option linter.unusedVariables false
set_option maxRecDepth 100000
theorem trodAll_six {H : Type} {enc : TypeId × Value → H} {P : Program} {w : World} {base : Nat} {spare : Nat → Bool} {held : Bool} {t0 t1 t2 t3 t4 t5 : TypeId} {args : Array Value} {ds : List (DataW H)} {ps : List MemPlace} (h : DataW.TrodAll enc P w base spare held [t0, t1, t2, t3, t4, t5] args.toList ds ps) :
    ∃ v0 v1 v2 v3 v4 v5 d0 d1 d2 d3 d4 d5 p0 p1 p2 p3 p4 p5, args = #[v0, v1, v2, v3, v4, v5] ∧ ds = [d0, d1, d2, d3, d4, d5] ∧ ps = p0 ++ (p1 ++ (p2 ++ (p3 ++ (p4 ++ p5)))) ∧ DataW.Trod enc P w base spare held t0 v0 d0 p0 ∧ DataW.Trod enc P w base spare held t1 v1 d1 p1 ∧ DataW.Trod enc P w base spare held t2 v2 d2 p2 ∧ DataW.Trod enc P w base spare held t3 v3 d3 p3 ∧ DataW.Trod enc P w base spare held t4 v4 d4 p4 ∧ DataW.Trod enc P w base spare held t5 v5 d5 p5 := by
  obtain ⟨args⟩ := args
  replace h : DataW.TrodAll enc P w base spare held [t0, t1, t2, t3, t4, t5] args ds ps := h
  obtain ⟨v0, r0, d0, e0, p0, q0, rfl, rfl, rfl, h0, k0⟩ := trodAll_cons h
  obtain ⟨v1, r1, d1, e1, p1, q1, rfl, rfl, rfl, h1, k1⟩ := trodAll_cons k0
  obtain ⟨v2, r2, d2, e2, p2, q2, rfl, rfl, rfl, h2, k2⟩ := trodAll_cons k1
  obtain ⟨v3, r3, d3, e3, p3, q3, rfl, rfl, rfl, h3, k3⟩ := trodAll_cons k2
  obtain ⟨v4, r4, d4, e4, p4, q4, rfl, rfl, rfl, h4, k4⟩ := trodAll_cons k3
  obtain ⟨v5, r5, d5, e5, p5, q5, rfl, rfl, rfl, h5, k5⟩ := trodAll_cons k4
  obtain ⟨rfl, rfl, rfl⟩ := trodAll_nil k5
  exact ⟨v0, v1, v2, v3, v4, v5, d0, d1, d2, d3, d4, d5, p0, p1, p2, p3, p4, p5, rfl, rfl, by simp, h0, h1, h2, h3, h4, h5⟩
theorem trodAll_five {H : Type} {enc : TypeId × Value → H} {P : Program} {w : World} {base : Nat} {spare : Nat → Bool} {held : Bool} {t0 t1 t2 t3 t4 : TypeId} {args : Array Value} {ds : List (DataW H)} {ps : List MemPlace} (h : DataW.TrodAll enc P w base spare held [t0, t1, t2, t3, t4] args.toList ds ps) :
    ∃ v0 v1 v2 v3 v4 d0 d1 d2 d3 d4 p0 p1 p2 p3 p4, args = #[v0, v1, v2, v3, v4] ∧ ds = [d0, d1, d2, d3, d4] ∧ ps = p0 ++ (p1 ++ (p2 ++ (p3 ++ p4))) ∧ DataW.Trod enc P w base spare held t0 v0 d0 p0 ∧ DataW.Trod enc P w base spare held t1 v1 d1 p1 ∧ DataW.Trod enc P w base spare held t2 v2 d2 p2 ∧ DataW.Trod enc P w base spare held t3 v3 d3 p3 ∧ DataW.Trod enc P w base spare held t4 v4 d4 p4 := by
  obtain ⟨args⟩ := args
  replace h : DataW.TrodAll enc P w base spare held [t0, t1, t2, t3, t4] args ds ps := h
  obtain ⟨v0, r0, d0, e0, p0, q0, rfl, rfl, rfl, h0, k0⟩ := trodAll_cons h
  obtain ⟨v1, r1, d1, e1, p1, q1, rfl, rfl, rfl, h1, k1⟩ := trodAll_cons k0
  obtain ⟨v2, r2, d2, e2, p2, q2, rfl, rfl, rfl, h2, k2⟩ := trodAll_cons k1
  obtain ⟨v3, r3, d3, e3, p3, q3, rfl, rfl, rfl, h3, k3⟩ := trodAll_cons k2
  obtain ⟨v4, r4, d4, e4, p4, q4, rfl, rfl, rfl, h4, k4⟩ := trodAll_cons k3
  obtain ⟨rfl, rfl, rfl⟩ := trodAll_nil k4
  exact ⟨v0, v1, v2, v3, v4, d0, d1, d2, d3, d4, p0, p1, p2, p3, p4, rfl, rfl, by simp, h0, h1, h2, h3, h4⟩
theorem key_cells {H : Type} {enc : TypeId × Value → H} {w : World} {base fuel : Nat} {spare : Nat → Bool} {held : Bool} {cs : List Value} {x : DataW H × List MemPlace} (hf : DataW.trod enc Tryd.prog w base spare held fuel 24 cs = some x) :
    ∃ a b : Int, cs = [.int .u64 a, .int .u64 b] ∧ U64 a ∧ U64 b := by
  have hu : Tryd.prog.underlying 24 = some (.array 2 22) := Tryd.underlying24
  obtain ⟨xs, m, _, _, hl, hxl, hg⟩ := DataW.trod_array hu hf
  have hk : Tryd.prog.cellsOf 24 = 2 := by kernel_rfl
  have h1 : Tryd.prog.cellsOf 22 = 1 := by kernel_rfl
  rw [hk] at hl
  simp only [h1] at hg
  match cs, hl, xs, hxl with
  | [c0, c1], _, [y0, y1], _ =>
    obtain ⟨a, e0, _, wa⟩ := DataW.trod_int Tryd.underlying22 (hg 0 (by omega))
    obtain ⟨b, e1, _, wb⟩ := DataW.trod_int Tryd.underlying22 (hg 1 (by omega))
    simp at e0 e1
    subst e0 e1
    exact ⟨a, b, rfl, bounds_u64 wa, bounds_u64 wb⟩
/-- a key by value: its cells -/
theorem open_key {H : Type} {enc : TypeId × Value → H} {w : World} {base b0 : Nat} {spare : Nat → Bool} {held : Bool} {r : Reach} {v : Value} {d : DataW H} {p : List MemPlace} (hv : Value.okWide Tryd.prog w r b0 24 v) (h : DataW.Trod enc Tryd.prog w base spare held 24 v d p) :
    ∃ a b : Int, v = keyV a b ∧ U64 a ∧ U64 b := by
  have hu : Tryd.prog.underlying 24 = some (.array 2 22) := Tryd.underlying24
  simp only [Value.okWide, hu] at hv
  obtain ⟨⟨l⟩, rfl, _, _⟩ := hv
  obtain ⟨fuel, hf⟩ := h
  obtain ⟨a, b, e, ha, hb⟩ := key_cells hf
  simp only [Value.cells] at e
  subst e
  exact ⟨a, b, rfl, ha, hb⟩
theorem cellsTk : Tryd.prog.cellsOf 46 = 5 := by kernel_rfl
theorem cellsKey : Tryd.prog.cellsOf 24 = 2 := by kernel_rfl
/-- a ticket by value: its cells -/
theorem open_tkt {H : Type} {enc : TypeId × Value → H} {W : World} {b0 : Nat} {r : Reach} {v : Value} {d : DataW H} {p : List MemPlace} (hv : Value.okWide Tryd.prog W r b0 46 v) (h : DataW.Trod enc Tryd.prog W 0 (fun _ => true) true 46 v d p) :
    ∃ (A : Option Addr) (c : Nat) (l : List Int) (x0 x1 x2 x3 : Int), v = .agg (tktL A l.length c x0 x1 x2 x3).toArray ∧ Bs W 0 W.heap.size A l ∧ l.length ≤ c ∧ c ≤ 9223372036854775807 ∧ (U64 x0 ∧ U64 x1 ∧ U64 x2 ∧ U64 x3) := by
  obtain ⟨cs, fuel, x, rfl, hx⟩ := open_struct Tryd.underlying46 hv h
  obtain ⟨hl, hf⟩ := trod_fields Tryd.underlying46 hx
  rw [cellsTk] at hl
  match cs, hl with
  | [c0, c1, c2, c3, c4], _ =>
    obtain ⟨y0, n0, h0⟩ := hf 0 _ rfl
    obtain ⟨y1, n1, h1⟩ := hf 1 _ rfl
    obtain ⟨y2, n2, h2⟩ := hf 2 _ rfl
    simp [cellsSl8, cellsKey] at h0 h1 h2
    obtain ⟨A, n', c, l, e1, hn, hB, q1, q2, q3, q4⟩ := cell_bs (fun _ => rfl) h0
    obtain ⟨x0, x1, e2, u0, u1⟩ := key_cells h1
    obtain ⟨x2, x3, e3, u2, u3⟩ := key_cells h2
    simp at e2 e3
    obtain ⟨rfl, rfl⟩ := e2
    obtain ⟨rfl, rfl⟩ := e3
    subst hn e1
    exact ⟨A, c, l, x0, x1, x2, x3, rfl, hB, q1, q2, u0, u1, u2, u3⟩
end Go.Proofs.YtkccmmhofhaccaaDoor
