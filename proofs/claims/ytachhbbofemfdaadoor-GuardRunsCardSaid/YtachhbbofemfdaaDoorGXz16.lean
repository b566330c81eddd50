/- The server: Reply. The client, behind one name; what a sealed message is read as. The server's part of a trip; the chapter's examples. Open and Accept of any bytes, in one statement; what was proved has its tag at its end. A struct in a block of its own with two rows of byte slices: what is known of it, how a row grows, is cut and replaced. No function of the program occurs here. -/
import Derived.Test.YtachhbbofemfdaaDoorGXz15
import Derived.Test.YtachhbbofemfdaaDoorGXz11
import Derived.Test.YtachhbbofemfdaaDoorGXz7
import Derived.Test.YtachhbbofemfdaaDoorGXz9
namespace Go.Proofs.YtachhbbofemfdaaDoor
open Go.RowKit
set_option linter.unusedSimpArgs false
set_option linter.unusedVariables false
set_option maxRecDepth 100000
def grE (ck : Int) (n : Nat) (L : Flds) : Int := if ck ≠ 0 ∨ n ≠ 16 then 2 else if firE L ≠ 0 then 2 else if 14 < L.length then 6 else 0
theorem grE_cases (ck : Int) (n : Nat) (L : Flds) : (ck ≠ 0 ∧ grE ck n L = 2) ∨ (ck = 0 ∧ n ≠ 16 ∧ grE ck n L = 2) ∨ (ck = 0 ∧ n = 16 ∧ firE L ≠ 0 ∧ grE ck n L = 2) ∨ (ck = 0 ∧ n = 16 ∧ firE L = 0 ∧ 14 < L.length ∧ grE ck n L = 6) ∨ (ck = 0 ∧ n = 16 ∧ firE L = 0 ∧ L.length ≤ 14 ∧ grE ck n L = 0) := by
  unfold grE
  by_cases h1 : ck = 0
  · by_cases h2 : n = 16
    · by_cases h3 : firE L = 0
      · by_cases h4 : 14 < L.length
        · exact .inr (.inr (.inr (.inl ⟨h1, h2, h3, h4, by rw [if_neg (by omega), if_neg (by omega), if_pos h4]⟩)))
        · exact .inr (.inr (.inr (.inr ⟨h1, h2, h3, by omega, by rw [if_neg (by omega), if_neg (by omega), if_neg h4]⟩)))
      · exact .inr (.inr (.inl ⟨h1, h2, h3, by rw [if_neg (by omega), if_pos h3]⟩))
    · exact .inr (.inl ⟨h1, h2, by rw [if_pos (.inr h2)]⟩)
  · exact .inl ⟨h1, by rw [if_pos (.inl h1)]⟩
theorem firE_bad {L : Flds} (h : firE L ≠ 0) : ∃ k, k < L.length ∧ chkE (kdL L k) (dtL L k).length ≠ 0 := by
  refine Classical.byContradiction fun hn => h (firE_ok L fun j hj => ?_)
  exact Classical.byContradiction fun hc => hn ⟨j, hj, hc⟩
theorem fir_at {L : Flds} (h : firE L = 0) : ∀ k, k < L.length → chkE (kdL L k) (dtL L k).length = 0 := fun k hk => by
  obtain ⟨e1, e2⟩ := kd_get hk
  rw [e1, e2]
  exact firE_all h _ (List.getElem_mem hk)
set_option maxRecDepth 100000 in
set_option maxHeartbeats 8000000 in
theorem greply_err (bj : Nat) (Ai : Option Addr) (ni ci : Nat) (x0 x1 x2 x3 : Int) (l v m st po pr rd rp id ref org rec xmt nonce : Int) (B : Option Addr) (q d : Nat) (L : Flds) (w : World) (hL : L.length = q) (hX : Xs w w.heap.size B L) (hqd : q ≤ d) (hd : d ≤ 9223372036854775807) (hsz : ∀ k, k < q → (dtL L k).length ≤ 140737488351232) (hE : grE (nchk l v m st po pr) ni L ≠ 0) :
    Calls Tryd.prog 17 #[.pointer (some ⟨bj, 0, none⟩), .agg (tktL Ai ni ci x0 x1 x2 x3).toArray, ntp l v m st po pr rd rp id ref org rec xmt, .slice B q d, .int .u64 nonce] w fun e w' => e = .returned (.tuple #[.slice none 0 0, .int .i64 (grE (nchk l v m st po pr) ni L)]) ∧ Below w.heap.size w w' := by
  have hK := fun W => nchk_any l v m st po pr rd rp id ref org rec xmt W
  rcases grE_cases (nchk l v m st po pr) ni L with ⟨h1, h2⟩ | ⟨h1, h2, h3⟩ | ⟨h1, h2, h3, h4⟩ | ⟨h1, h2, h3, h4, h5⟩ | ⟨h1, h2, h3, h4, h5⟩
  · rw [h2]
    have h1' : (nchk l v m st po pr != 0) = true := by simpa using h1
    generalize nchk l v m st po pr = E at hK h1'
    clear h1 h2 hE
    go_enter Tryd.func17, Tryd.ntmps17
    go_wp2_with (first
      | (refine wpl_box (by rfl) 31 _ (by rfl) _ (tktL Ai ni ci x0 x1 x2 x3) (by rfl) rfl ?_; intro w1 K1 s1 b1)
      | ((refine wpl_box (by rfl) 27 _ (by rfl) _ ([.int .i64 l, .int .i64 v, .int .i64 m, .int .i64 st, .int .i64 po, .int .i64 pr, .int .u32 rd, .int .u32 rp, .int .u32 id, .int .u64 ref, .int .u64 org, .int .u64 rec, .int .u64 xmt]) (by rfl) rfl ?_; intro w2 P2 s2 b2); (have K2 := K1.below b2 (by omega)); (have B2 := b1.trans (b2.mono (by omega))))
      | (refine wpl_load (by rfl) 27 _ (by rfl) w1.heap.size (by rfl) 27 _ P2 _ Tryd.underlying27 rfl _ sizeNtp (by rfl) ?_)
      | (go_at_call 39; ((with_reducible refine (hK _).mono ?_); rintro e w3 ⟨rfl, b3⟩; (have K3 := K2.below b3 K2.lt); (have P3 := P2.below b3 P2.lt); (have B3 := B2.trans (b3.mono B2.size))))
      | (refine wpl_loadf (by rfl) 23 _ (by rfl) w.heap.size 0 (by rfl) _ _ K3 _ rfl _ Tryd.underlying23 rfl ?_)
      )
    go_ret2
    exact ⟨rfl, B3⟩
  · rw [h3]
    rw [h1] at hK
    have h2' : ((ni : Int) != 16) = true := by simp; omega
    clear h1 h2 h3 hE
    go_enter Tryd.func17, Tryd.ntmps17
    go_wp2_with (first
      | (refine wpl_box (by rfl) 31 _ (by rfl) _ (tktL Ai ni ci x0 x1 x2 x3) (by rfl) rfl ?_; intro w1 K1 s1 b1)
      | ((refine wpl_box (by rfl) 27 _ (by rfl) _ ([.int .i64 l, .int .i64 v, .int .i64 m, .int .i64 st, .int .i64 po, .int .i64 pr, .int .u32 rd, .int .u32 rp, .int .u32 id, .int .u64 ref, .int .u64 org, .int .u64 rec, .int .u64 xmt]) (by rfl) rfl ?_; intro w2 P2 s2 b2); (have K2 := K1.below b2 (by omega)); (have B2 := b1.trans (b2.mono (by omega))))
      | (refine wpl_load (by rfl) 27 _ (by rfl) w1.heap.size (by rfl) 27 _ P2 _ Tryd.underlying27 rfl _ sizeNtp (by rfl) ?_)
      | (go_at_call 39; ((with_reducible refine (hK _).mono ?_); rintro e w3 ⟨rfl, b3⟩; (have K3 := K2.below b3 K2.lt); (have P3 := P2.below b3 P2.lt); (have B3 := B2.trans (b3.mono B2.size))))
      | (refine wpl_loadf (by rfl) 23 _ (by rfl) w.heap.size 0 (by rfl) _ _ K3 _ rfl _ Tryd.underlying23 rfl ?_)
      )
    go_ret2
    exact ⟨rfl, B3⟩
  · rw [h4]
    rw [h1] at hK
    have h2' : ((ni : Int) != 16) = false := by simp; omega
    obtain ⟨kb, hkb, hbad⟩ := firE_bad h3
    have HBad := Lib.hid hbad
    clear h1 h2 h3 h4 hE hbad
    go_enter Tryd.func17, Tryd.ntmps17
    go_wp2_with (first
      | (refine wpl_box (by rfl) 31 _ (by rfl) _ (tktL Ai ni ci x0 x1 x2 x3) (by rfl) rfl ?_; intro w1 K1 s1 b1)
      | ((refine wpl_box (by rfl) 27 _ (by rfl) _ ([.int .i64 l, .int .i64 v, .int .i64 m, .int .i64 st, .int .i64 po, .int .i64 pr, .int .u32 rd, .int .u32 rp, .int .u32 id, .int .u64 ref, .int .u64 org, .int .u64 rec, .int .u64 xmt]) (by rfl) rfl ?_; intro w2 P2 s2 b2); (have K2 := K1.below b2 (by omega)); (have B2 := b1.trans (b2.mono (by omega))))
      | (refine wpl_load (by rfl) 27 _ (by rfl) w1.heap.size (by rfl) 27 _ P2 _ Tryd.underlying27 rfl _ sizeNtp (by rfl) ?_)
      | (go_at_call 39; ((with_reducible refine (hK _).mono ?_); rintro e w3 ⟨rfl, b3⟩; (have K3 := K2.below b3 K2.lt); (have P3 := P2.below b3 P2.lt); (have B3 := B2.trans (b3.mono B2.size))))
      | (refine wpl_loadf (by rfl) 23 _ (by rfl) w.heap.size 0 (by rfl) _ _ K3 _ rfl _ Tryd.underlying23 rfl ?_)
      )
    go_loopw [28] (fun i wr => ∃ k : Nat, k ≤ q ∧ i = .int .i64 k ∧ Hid (∀ j, j < k → chkE (kdL L j) (dtL L j).length = 0) ∧ Below w.heap.size w wr) (fun i _ => q - (intOf i).toNat)
    case atStart => exact ⟨0, by omega, rfl, fun j hj => absurd hj (by omega), B3⟩
    case round =>
      obtain ⟨k, hk, rfl, hV, hB⟩ := hrel
      by_cases hlt : k < q
      · skip
        obtain ⟨bb, o, rfl, hbw, hx⟩ := (hX.below hB (Nat.le_refl _)) (by omega)
        obtain ⟨Ak, ck, hrg, hBk, hlc, hcm, hno⟩ := (hx k (by omega)).open'
        have hi0 : (0 : Int) ≤ k := by omega
        have hi1 : (k : Int) < q := by omega
        obtain ⟨K, hK⟩ : ∃ K, K = kdL L k := ⟨_, rfl⟩
        obtain ⟨D, hD⟩ : ∃ D, D = (dtL L k).length := ⟨_, rfl⟩
        rw [← hK, ← hD] at hrg
        have hck := fun W => chk_any K Ak D ck W (by have := hsz k (by omega); omega)
        have hE0 : chkE K D = chkE (kdL L k) (dtL L k).length := by rw [hK, hD]
        clear hx hBk hlc hno hK hD
        generalize hEE : chkE K D = E at hck hE0
        by_cases hE0' : E = 0
        · have hc0 : (E != 0) = false := by simpa using hE0'
          have hV' : Hid (∀ j, j < k + 1 → chkE (kdL L j) (dtL L j).length = 0) := fun j hj => by
            rcases Nat.lt_or_ge j k with q1 | q1
            · exact hV.out j q1
            · obtain rfl : j = k := by omega
              rw [← hE0, hE0']
          clear hE0 hE0' hEE
          go_wp2_with (first
            | (refine wpl_loadr (by rfl) 62 _ (by rfl) bb (o + k * 2) (by rfl) _ hrg _ Tryd.underlying62 rfl _ sizeExt (by rfl) ?_)
            | ((refine wpl_alloc (by rfl) 62 (by rfl) (.agg (exC 0 none 0 0).toArray) (exC 0 none 0 0) zeroExt rfl ?_; intro wa Ja sa ba))
            | (refine wpl_store (by rfl) 62 _ _ (by rfl) wr.heap.size (by rfl) _ (by rfl) (exC K Ak D ck) rfl 62 _ Ja (by rfl) _ sizeExt (by rfl) (by simp [Value.oneCell']) ?_; intro wb Jb sb gb)
            | (refine wpl_load (by rfl) 62 _ (by rfl) wr.heap.size (by rfl) 62 _ Jb _ Tryd.underlying62 rfl _ sizeExt (by rfl) ?_)
            | (go_at_call 40; ((with_reducible refine (hck _).mono ?_); rintro e wc ⟨rfl, bc⟩))
            )
          exact ⟨⟨k + 1, by omega, by go_num, hV', ((hB.trans (ba.mono hB.size)).trans (But.below (g := wr.heap.size) gb (by have := hB.size; omega) hB.size)).trans (bc.mono (by have := hB.size; omega))⟩, by simp [intOf]; omega⟩
        · have hc0 : (E != 0) = true := by simpa using hE0'
          clear hE0 hE0' hEE
          go_wp2_with (first
            | (refine wpl_loadr (by rfl) 62 _ (by rfl) bb (o + k * 2) (by rfl) _ hrg _ Tryd.underlying62 rfl _ sizeExt (by rfl) ?_)
            | ((refine wpl_alloc (by rfl) 62 (by rfl) (.agg (exC 0 none 0 0).toArray) (exC 0 none 0 0) zeroExt rfl ?_; intro wa Ja sa ba))
            | (refine wpl_store (by rfl) 62 _ _ (by rfl) wr.heap.size (by rfl) _ (by rfl) (exC K Ak D ck) rfl 62 _ Ja (by rfl) _ sizeExt (by rfl) (by simp [Value.oneCell']) ?_; intro wb Jb sb gb)
            | (refine wpl_load (by rfl) 62 _ (by rfl) wr.heap.size (by rfl) 62 _ Jb _ Tryd.underlying62 rfl _ sizeExt (by rfl) ?_)
            | (go_at_call 40; ((with_reducible refine (hck _).mono ?_); rintro e wc ⟨rfl, bc⟩))
            )
          go_ret2
          exact ⟨rfl, ((hB.trans (ba.mono hB.size)).trans (But.below (g := wr.heap.size) gb (by have := hB.size; omega) hB.size)).trans (bc.mono (by have := hB.size; omega))⟩
      · exfalso
        exact HBad.out (hV.out kb (by omega))
  · rw [h5]
    rw [h1] at hK
    have h2' : ((ni : Int) != 16) = false := by simp; omega
    have hall := Lib.hid (fir_at h3)
    have hgt : decide ((14 : Int) < q) = true := decide_eq_true (by omega)
    clear h1 h2 h3 h4 h5 hE
    go_enter Tryd.func17, Tryd.ntmps17
    go_wp2_with (first
      | (refine wpl_box (by rfl) 31 _ (by rfl) _ (tktL Ai ni ci x0 x1 x2 x3) (by rfl) rfl ?_; intro w1 K1 s1 b1)
      | ((refine wpl_box (by rfl) 27 _ (by rfl) _ ([.int .i64 l, .int .i64 v, .int .i64 m, .int .i64 st, .int .i64 po, .int .i64 pr, .int .u32 rd, .int .u32 rp, .int .u32 id, .int .u64 ref, .int .u64 org, .int .u64 rec, .int .u64 xmt]) (by rfl) rfl ?_; intro w2 P2 s2 b2); (have K2 := K1.below b2 (by omega)); (have B2 := b1.trans (b2.mono (by omega))))
      | (refine wpl_load (by rfl) 27 _ (by rfl) w1.heap.size (by rfl) 27 _ P2 _ Tryd.underlying27 rfl _ sizeNtp (by rfl) ?_)
      | (go_at_call 39; ((with_reducible refine (hK _).mono ?_); rintro e w3 ⟨rfl, b3⟩; (have K3 := K2.below b3 K2.lt); (have P3 := P2.below b3 P2.lt); (have B3 := B2.trans (b3.mono B2.size))))
      | (refine wpl_loadf (by rfl) 23 _ (by rfl) w.heap.size 0 (by rfl) _ _ K3 _ rfl _ Tryd.underlying23 rfl ?_)
      )
    go_loopw [28] (fun i wr => ∃ k : Nat, k ≤ q ∧ i = .int .i64 k ∧ Below w.heap.size w wr) (fun i _ => q - (intOf i).toNat)
    case atStart => exact ⟨0, by omega, rfl, B3⟩
    case round =>
      obtain ⟨k, hk, rfl, hB⟩ := hrel
      by_cases hlt : k < q
      · skip
        obtain ⟨bb, o, rfl, hbw, hx⟩ := (hX.below hB (Nat.le_refl _)) (by omega)
        obtain ⟨Ak, ck, hrg, hBk, hlc, hcm, hno⟩ := (hx k (by omega)).open'
        have hi0 : (0 : Int) ≤ k := by omega
        have hi1 : (k : Int) < q := by omega
        obtain ⟨K, hK⟩ : ∃ K, K = kdL L k := ⟨_, rfl⟩
        obtain ⟨D, hD⟩ : ∃ D, D = (dtL L k).length := ⟨_, rfl⟩
        rw [← hK, ← hD] at hrg
        have hck := fun W => chk_any K Ak D ck W (by have := hsz k (by omega); omega)
        have hE0 : chkE K D = chkE (kdL L k) (dtL L k).length := by rw [hK, hD]
        clear hx hBk hlc hno hK hD
        generalize hEE : chkE K D = E at hck hE0
        have hc0 : (E != 0) = false := by
          have := hall.out k (by omega)
          rw [← hE0] at this
          simp [this]
        clear hE0 hEE
        go_wp2_with (first
          | (refine wpl_loadr (by rfl) 62 _ (by rfl) bb (o + k * 2) (by rfl) _ hrg _ Tryd.underlying62 rfl _ sizeExt (by rfl) ?_)
          | ((refine wpl_alloc (by rfl) 62 (by rfl) (.agg (exC 0 none 0 0).toArray) (exC 0 none 0 0) zeroExt rfl ?_; intro wa Ja sa ba))
          | (refine wpl_store (by rfl) 62 _ _ (by rfl) wr.heap.size (by rfl) _ (by rfl) (exC K Ak D ck) rfl 62 _ Ja (by rfl) _ sizeExt (by rfl) (by simp [Value.oneCell']) ?_; intro wb Jb sb gb)
          | (refine wpl_load (by rfl) 62 _ (by rfl) wr.heap.size (by rfl) 62 _ Jb _ Tryd.underlying62 rfl _ sizeExt (by rfl) ?_)
          | (go_at_call 40; ((with_reducible refine (hck _).mono ?_); rintro e wc ⟨rfl, bc⟩))
          )
        exact ⟨⟨k + 1, by omega, by go_num, ((hB.trans (ba.mono hB.size)).trans (But.below (g := wr.heap.size) gb (by have := hB.size; omega) hB.size)).trans (bc.mono (by have := hB.size; omega))⟩, by simp [intOf]; omega⟩
      · obtain rfl : k = q := by omega
        go_wp2
        go_ret2
        exact ⟨rfl, hB⟩
  · exact absurd h5 hE
/-- the fields of a reply -/
def rpF (id ck : List Int) (L : Flds) : Flds := [(260, id), (772, ck)] ++ L
theorem rpF_apx {id ck : List Int} {L : Flds} (h1 : id.length = 16) (h2 : ck.length = 52) (h3 : firE L = 0) (h4 : L.length ≤ 14) : apxE (rpF id ck L) = 0 := by
  unfold apxE rpF
  rw [if_neg (by rw [List.length_append]; simp only [List.length_cons, List.length_nil]; omega)]
  refine firE_valid fun t ht => ?_
  rw [List.mem_append] at ht
  rcases ht with ht | ht
  · have : t = (260, id) ∨ t = (772, ck) := by simpa using ht
    rcases this with rfl | rfl
    · simp [chkE, h1]
    · simp [chkE, h2]
  · exact firE_all h3 t ht
/-- the row of the two fields -/
theorem xb_two {w : World} {g lo : Nat} {A A' : Option Addr} {n c n' c' : Nat} {d d' : List Int} {kd kd' : Int} (h : Blk w g 62 [.int .i64 kd, .slice A n c, .int .i64 kd', .slice A' n' c']) (hlo : lo ≤ g) (hn : d.length = n) (hn' : d'.length = n')
    (hd : XD w lo ((kd, d), (A, c))) (hd' : XD w lo ((kd', d'), (A', c'))) : XB w lo (some ⟨g, 0, none⟩) 2 [((kd, d), (A, c)), ((kd', d'), (A', c'))] := by
  subst hn hn'
  refine ⟨⟨rfl, .inr ⟨g, 2, #[.int .i64 kd, .slice A d.length c, .int .i64 kd', .slice A' d'.length c'], rfl, hlo, h, Nat.le_refl _, by unfold maxLen; omega, rfl, rfl⟩⟩, fun t ht => ?_⟩
  have : t = ((kd, d), (A, c)) ∨ t = ((kd', d'), (A', c')) := by simpa using ht
  rcases this with rfl | rfl
  · exact hd
  · exact hd'
set_option maxRecDepth 100000 in
set_option maxHeartbeats 16000000 in
theorem greply_ok (bj : Nat) (Ai : Option Addr) (ni ci : Nat) (x0 x1 x2 x3 : Int) (l v m st po pr rd rp id ref org rec xmt nonce : Int) (B : Option Addr) (q d : Nat) (L : Flds) (w : World) (hL : L.length = q) (hX : Xs w w.heap.size B L) (hqd : q ≤ d) (hd : d ≤ 9223372036854775807) (hsz : ∀ k, k < q → (dtL L k).length ≤ 140737488351232) (s kk g : Int) (id' : List Int) (hJ : Blk w bj 84 (jarL s kk g)) (hs : U64 s) (hg : Gn g) (hR : Rnd w) (hno : U64 nonce) (hx0 : U64 x0) (hx1 : U64 x1) (hx2 : U64 x2) (hx3 : U64 x3) (hBn : B = none → q = 0) (hI : Bs w 0 w.heap.size Ai id') (hil : id'.length = ni) (hic : ni ≤ ci) (hicc : ci ≤ 9223372036854775807) (hin : Ai = none → ni = 0 ∧ ci = 0) (h6 : 0 ≤ rd ∧ rd ≤ 4294967295) (h7 : 0 ≤ rp ∧ rp ≤ 4294967295) (h8 : 0 ≤ id ∧ id ≤ 4294967295) (h9 : 0 ≤ ref ∧ ref ≤ 18446744073709551615) (h10 : 0 ≤ org ∧ org ≤ 18446744073709551615) (h11 : 0 ≤ rec ∧ rec ≤ 18446744073709551615) (h12 : 0 ≤ xmt ∧ xmt ≤ 18446744073709551615) (hE : grE (nchk l v m st po pr) ni L = 0) :
    Calls Tryd.prog 17 #[.pointer (some ⟨bj, 0, none⟩), .agg (tktL Ai ni ci x0 x1 x2 x3).toArray, ntp l v m st po pr rd rp id ref org rec xmt, .slice B q d, .int .u64 nonce] w fun e w' => ∃ A c n, e = .returned (.tuple #[.slice A n c, .int .i64 0]) ∧ (msgB l v m st po pr rd rp id ref org rec xmt (rpF id' (ckB s g nonce x0 x1 x2 x3) L) x2 x3).length = n ∧ Ow w' w.heap.size A c (msgB l v m st po pr rd rp id ref org rec xmt (rpF id' (ckB s g nonce x0 x1 x2 x3) L) x2 x3) ∧ Below w.heap.size w w' := by
  have hK := fun W => nchk_any l v m st po pr rd rp id ref org rec xmt W
  obtain ⟨h1, h2, h3, h4⟩ : nchk l v m st po pr = 0 ∧ ni = 16 ∧ firE L = 0 ∧ L.length ≤ 14 := by
    rcases grE_cases (nchk l v m st po pr) ni L with ⟨h1, h2⟩ | ⟨h1, h2, h3⟩ | ⟨h1, h2, h3, h4⟩ | ⟨h1, h2, h3, h4, h5⟩ | ⟨h1, h2, h3, h4, h5⟩
    · omega
    · omega
    · omega
    · omega
    · exact ⟨h1, h2, h3, h4⟩
  have hck52 := ckB_len s g nonce x0 x1 x2 x3
  have hapx := rpF_apx (L := L) (hil.trans h2) hck52 h3 h4
  rw [h1] at hK
  have h2' : ((ni : Int) != 16) = false := by simp; omega
  have hall := Lib.hid (fir_at h3)
  have hgt : decide ((14 : Int) < q) = false := decide_eq_false (by omega)
  have hSe := fun W hJ hR => seal_any bj s kk g x0 x1 x2 x3 nonce W hs hg hno hx0 hx1 hx2 hx3 hJ hR
  have hMs := fun B q d W hm hX hmd hd hR => seal_ok l v m st po pr rd rp id ref org rec xmt B q d (rpF id' (ckB s g nonce x0 x1 x2 x3) L) x2 x3 W h1 h6 h7 h8 h9 h10 h11 h12 hm hX hmd hd hapx hx2 hx3 hR
  generalize ckB s g nonce x0 x1 x2 x3 = CK at hSe hMs hck52 ⊢
  have hML : Hid (L.length ≤ 14) := h4
  have HN16 := Lib.hid h2
  clear h2 h3 hE hapx
  go_enter Tryd.func17, Tryd.ntmps17
  go_wp2_with (first
    | (refine wpl_box (by rfl) 31 _ (by rfl) _ (tktL Ai ni ci x0 x1 x2 x3) (by rfl) rfl ?_; intro w1 K1 s1 b1)
    | ((refine wpl_box (by rfl) 27 _ (by rfl) _ ([.int .i64 l, .int .i64 v, .int .i64 m, .int .i64 st, .int .i64 po, .int .i64 pr, .int .u32 rd, .int .u32 rp, .int .u32 id, .int .u64 ref, .int .u64 org, .int .u64 rec, .int .u64 xmt]) (by rfl) rfl ?_; intro w2 P2 s2 b2); (have K2 := K1.below b2 (by omega)); (have B2 := b1.trans (b2.mono (by omega))))
    | (refine wpl_load (by rfl) 27 _ (by rfl) w1.heap.size (by rfl) 27 _ P2 _ Tryd.underlying27 rfl _ sizeNtp (by rfl) ?_)
    | (go_at_call 39; ((with_reducible refine (hK _).mono ?_); rintro e w3 ⟨rfl, b3⟩; (have K3 := K2.below b3 K2.lt); (have P3 := P2.below b3 P2.lt); (have B3 := B2.trans (b3.mono B2.size))))
    | (refine wpl_loadf (by rfl) 23 _ (by rfl) w.heap.size 0 (by rfl) _ _ K3 _ rfl _ Tryd.underlying23 rfl ?_)
    )
  go_loopw [28] (fun i wr => ∃ k : Nat, k ≤ q ∧ i = .int .i64 k ∧ Below w3.heap.size w3 wr) (fun i _ => q - (intOf i).toNat)
  case atStart => exact ⟨0, by omega, rfl, Below.refl _ _⟩
  case round =>
    obtain ⟨k, hk, rfl, hB3⟩ := hrel
    have hB := B3.trans (hB3.mono B3.size)
    by_cases hlt : k < q
    · skip
      obtain ⟨bb, o, rfl, hbw, hx⟩ := (hX.below hB (Nat.le_refl _)) (by omega)
      obtain ⟨Ak, ck, hrg, hBk, hlc, hcm, hno⟩ := (hx k (by omega)).open'
      have hi0 : (0 : Int) ≤ k := by omega
      have hi1 : (k : Int) < q := by omega
      obtain ⟨K, hK⟩ : ∃ K, K = kdL L k := ⟨_, rfl⟩
      obtain ⟨D, hD⟩ : ∃ D, D = (dtL L k).length := ⟨_, rfl⟩
      rw [← hK, ← hD] at hrg
      have hck := fun W => chk_any K Ak D ck W (by have := hsz k (by omega); omega)
      have hE0 : chkE K D = chkE (kdL L k) (dtL L k).length := by rw [hK, hD]
      clear hx hBk hlc hno hK hD
      generalize hEE : chkE K D = E at hck hE0
      have hc0 : (E != 0) = false := by
        have := hall.out k (by omega)
        rw [← hE0] at this
        simp [this]
      clear hE0 hEE
      go_wp2_with (first
        | (refine wpl_loadr (by rfl) 62 _ (by rfl) bb (o + k * 2) (by rfl) _ hrg _ Tryd.underlying62 rfl _ sizeExt (by rfl) ?_)
        | ((refine wpl_alloc (by rfl) 62 (by rfl) (.agg (exC 0 none 0 0).toArray) (exC 0 none 0 0) zeroExt rfl ?_; intro wa Ja sa ba))
        | (refine wpl_store (by rfl) 62 _ _ (by rfl) wr.heap.size (by rfl) _ (by rfl) (exC K Ak D ck) rfl 62 _ Ja (by rfl) _ sizeExt (by rfl) (by simp [Value.oneCell']) ?_; intro wb Jb sb gb)
        | (refine wpl_load (by rfl) 62 _ (by rfl) wr.heap.size (by rfl) 62 _ Jb _ Tryd.underlying62 rfl _ sizeExt (by rfl) ?_)
        | (go_at_call 40; ((with_reducible refine (hck _).mono ?_); rintro e wc ⟨rfl, bc⟩))
        )
      exact ⟨⟨k + 1, by omega, by go_num, ((hB3.trans (ba.mono hB3.size)).trans (But.below (g := wr.heap.size) gb (by have := hB3.size; omega) hB3.size)).trans (bc.mono (by have := hB3.size; omega))⟩, by simp [intOf]; omega⟩
    · obtain rfl : k = q := by omega
      have K4 := K3.below hB3 K3.lt
      have P4 := P3.below hB3 P3.lt
      have J4 := hJ.below hB hJ.lt
      have R4 := hR.below hB hR.lt
      have I4 := hI.below hB (Nat.le_refl _)
      have X4 := hX.below hB (Nat.le_refl _)
      have z4 := hB.size
      have hK0 : wr.cell? ⟨w.heap.size, 0, none⟩ = some (.slice Ai ni ci) := K4.cell rfl
      clear K1 K2 K3 P2 P3 b1 b2 b3 B2 B3 hB3 hall hsz
      go_wp2_with fail
      refine wp_region_heldL (fun y => Blk y w.heap.size 31 (tktL Ai ni ci x0 x1 x2 x3) ∧ y.cell? ⟨w.heap.size, 0, none⟩ = some (.slice Ai ni ci)) 13 (by kernel_rfl) rfl ⟨K4.drew, hK0⟩ fun hHeld => ?_
      simp only [List.replicate]
      (refine wpH_t 0 _ (by exact gE rfl) (by kernel_rfl) (by intro _ _ _ h; exact h) (Or.inl ⟨by rfl, (by intro _ h; (try dsimp only at h); go_simp; first | done | with_reducible rfl)⟩) (by assumption) ?_; (try simp only [Act.put, zs0, zs1, zs2]))
      (refine wpH_t 1 _ (by exact gE rfl) (by kernel_rfl) (by intro _ _ _ h; exact h) (Or.inl ⟨by rfl, (by intro _ h; (try dsimp only at h); go_simp; first | done | with_reducible rfl)⟩) (by assumption) ?_; (try simp only [Act.put, zs0, zs1, zs2]))
      (refine wpH_t 2 _ (by exact gE rfl) (by kernel_rfl) (by intro _ _ _ h; exact h) (Or.inl ⟨by rfl, (by intro _ h; (try dsimp only at h); go_simp; first | done | with_reducible rfl)⟩) (by assumption) ?_; (try simp only [Act.put, zs0, zs1, zs2]))
      (refine wpH_t 3 _ (by exact gE rfl) (by kernel_rfl) (by intro _ _ _ h; exact h) (Or.inl ⟨by rfl, (by intro _ h; (try dsimp only at h); go_simp; first | done | with_reducible rfl)⟩) (by assumption) ?_; (try simp only [Act.put, zs0, zs1, zs2]))
      (refine wpH_t 4 _ (by exact gE rfl) (by kernel_rfl) (by intro _ _ _ h; exact h) (Or.inl ⟨by rfl, (by intro _ h; (try dsimp only at h); go_simp; first | done | with_reducible rfl)⟩) (by assumption) ?_; (try simp only [Act.put, zs0, zs1, zs2]))
      refine wpH_take (i := 5) (v := .agg (keyL x0 x1).toArray) (by exact gE rfl) (by kernel_rfl) (by kernel_rfl) (by kernel_rfl) (by intro _ _ _ h; exact h) (yieldsIf_load_mid (by rfl) 29 _ (by rfl) w.heap.size 1 (by rfl) (keyL x0 x1) _ (fun w' h => Blk.mid h.1 1 (keyL x0 x1) rfl) Tryd.underlying29 rfl sizeKey) (by assumption) ?_
      (try simp only [Act.put, zs0, zs1, zs2])
      (refine wpH_t 6 _ (by exact gE rfl) (by kernel_rfl) (by intro _ _ _ h; exact h) (Or.inl ⟨by rfl, (by intro _ h; (try dsimp only at h); go_simp; first | done | with_reducible rfl)⟩) (by assumption) ?_; (try simp only [Act.put, zs0, zs1, zs2]))
      refine wpH_take (i := 7) (v := .agg (keyL x2 x3).toArray) (by exact gE rfl) (by kernel_rfl) (by kernel_rfl) (by kernel_rfl) (by intro _ _ _ h; exact h) (yieldsIf_load_mid (by rfl) 29 _ (by rfl) w.heap.size 3 (by rfl) (keyL x2 x3) _ (fun w' h => Blk.mid h.1 3 (keyL x2 x3) rfl) Tryd.underlying29 rfl sizeKey) (by assumption) ?_
      (try simp only [Act.put, zs0, zs1, zs2])
      (refine wpH_t 8 _ (by exact gE rfl) (by kernel_rfl) (by intro _ _ _ h; exact h) (Or.inl ⟨by rfl, (by intro _ h; (try dsimp only at h); go_simp; first | done | with_reducible rfl)⟩) (by assumption) ?_; (try simp only [Act.put, zs0, zs1, zs2]))
      have hSE := hSe wr.drew J4.drew R4.drew
      (refine wpH_one (i := 9) (by exact gE rfl) (by kernel_rfl) (by rfl) ?_; (go_simp; (with_reducible refine hSE.mono ?_); rintro e w5 ⟨A5, c5, rfl, O5, b5⟩; refine ⟨⟨K4.drew.below b5 K4.lt, (K4.drew.below b5 K4.lt).cell rfl⟩, ?_⟩); (try simp only [Act.put, zs0, zs1, zs2]))
      have K5 := K4.drew.below b5 K4.lt
      have P5 := P4.drew.below b5 P4.lt
      have R5 := R4.drew.below b5 R4.lt
      have I5 := I4.drew.below b5 z4
      have X5 := X4.below (((Below.refl _ wr).drew).trans b5) z4
      have z5 : wr.heap.size ≤ w5.heap.size := b5.size
      have B5 := hB.drew.trans (b5.mono z4)
      have hH5 : Blk w5 w.heap.size 31 (tktL Ai ni ci x0 x1 x2 x3) ∧ w5.cell? ⟨w.heap.size, 0, none⟩ = some (.slice Ai ni ci) := ⟨K5, K5.cell rfl⟩
      (refine wpH_t 10 _ (by exact gE rfl) (by kernel_rfl) (by intro _ _ _ h; exact h) (Or.inl ⟨by rfl, (by intro _ h; (try dsimp only at h); go_simp; first | done | with_reducible rfl)⟩) (by assumption) ?_; (try simp only [Act.put, zs0, zs1, zs2]))
      have hcc5 := O5.cap_le
      rw [hck52] at hcc5
      have hO5n : A5 ≠ none := fun e => by
        rcases O5.form with ⟨_, e2, _⟩ | ⟨r, e2, _⟩
        · rw [e2] at hck52; cases hck52
        · rw [e2] at e; cases e
      (refine wpH_one (i := 11) (by exact gE rfl) (by kernel_rfl) (by rfl) ?_; (go_simp; refine ⟨⟨K5.old, K5.old.cell rfl⟩, ?_⟩); (try simp only [Act.put, zs0, zs1, zs2]))
      obtain ⟨w6, hw6⟩ : ∃ w6, w6 = w5.alloc (.cells #[.int .i64 260, .slice Ai ni ci, .int .i64 772, .slice A5 52 c5] 62) := ⟨_, rfl⟩
      rw [← hw6]
      have b6 : Below w5.heap.size w5 w6 := by rw [hw6]; exact (Below.refl _ w5).alloc (Nat.le_refl _) _
      have N6 : Blk w6 w5.heap.size 62 [.int .i64 260, .slice Ai ni ci, .int .i64 772, .slice A5 52 c5] := by rw [hw6]; exact Blk.new w5 _ _ _ rfl
      clear hw6
      have K6 := K5.below b6 K5.lt
      have zP5 := P5.lt
      have zK5 := K5.lt
      have zR5 := R5.lt
      have P6 := P5.below b6 P5.lt
      have R6 := R5.below b6 R5.lt
      have z45 := hB.size
      have zw5 : w.heap.size ≤ w5.heap.size := by omega
      have TB := xb_two (lo := w5.heap.size) N6 (Nat.le_refl _) hil hck52 ⟨((I5.below b6 (by omega)).wide (Nat.le_refl _) zw5), by show id'.length ≤ ci; omega, hicc, by rw [hil]; exact hin⟩ ⟨(O5.bs.wide (Nat.zero_le _) (Nat.le_refl _)).below b6 (Nat.le_refl _), by show CK.length ≤ c5; omega, O5.cap_max, fun e => absurd e hO5n⟩
      have X6 := X5.below b6 (by omega)
      obtain ⟨U, hU, hUc, hUX⟩ := xs_rows_any (lo := w5.heap.size) (n := k) X6 hL hBn zw5
      have hUl : U.length = k := by rw [← flds_len, hU, hL]
      have B6 := B5.trans (b6.mono B5.size)
      have z6 := N6.lt
      have hH6 : Blk w6 w.heap.size 31 (tktL Ai ni ci x0 x1 x2 x3) ∧ w6.cell? ⟨w.heap.size, 0, none⟩ = some (.slice Ai ni ci) := ⟨K6, K6.cell rfl⟩
      (refine wpH_t 12 _ (by exact gE rfl) (by kernel_rfl) (by intro _ _ _ h; exact h) (Or.inl ⟨by rfl, (by intro _ h; (try dsimp only at h); go_simp; first | done | with_reducible rfl)⟩) (by assumption) ?_; (try simp only [Act.put, zs0, zs1, zs2]))
      refine wpH_done (by kernel_rfl) ?_ _
      clear hHeld hH5 hH6 K4 K5 P4 P5 J4 R4 R5 I4 I5 X4 X5 X6 hSE hSe B5 b5 hK0 N6 O5 hO5n
      go_wp2_with fail
      have zP := P6.lt
      have zK := K6.lt
      have z1' : w1.heap.size ≤ w6.heap.size := by omega
      generalize hq1 : w1.heap.size = n1 at *
      refine wp_region_heldL (fun y => Blk y w.heap.size 31 (tktL Ai ni ci x0 x1 x2 x3) ∧ Blk y n1 27 [.int .i64 l, .int .i64 v, .int .i64 m, .int .i64 st, .int .i64 po, .int .i64 pr, .int .u32 rd, .int .u32 rp, .int .u32 id, .int .u64 ref, .int .u64 org, .int .u64 rec, .int .u64 xmt]) 11 (by kernel_rfl) rfl ⟨K6.drew, P6.drew⟩ fun hHeld => ?_
      simp only [List.replicate]
      refine wpH_t 0 (.agg ([.int .i64 l, .int .i64 v, .int .i64 m, .int .i64 st, .int .i64 po, .int .i64 pr, .int .u32 rd, .int .u32 rp, .int .u32 id, .int .u64 ref, .int .u64 org, .int .u64 rec, .int .u64 xmt]).toArray) (by exact gE rfl) (by kernel_rfl) (by intro _ _ _ h; exact h) (yieldsIf_load_mid (by rfl) 27 _ (by rfl) n1 0 (by rfl) ([.int .i64 l, .int .i64 v, .int .i64 m, .int .i64 st, .int .i64 po, .int .i64 pr, .int .u32 rd, .int .u32 rp, .int .u32 id, .int .u64 ref, .int .u64 org, .int .u64 rec, .int .u64 xmt]) _ (fun w' h => h.2.range) Tryd.underlying27 rfl sizeNtp) (by assumption) ?_
      (try simp only [Act.put, zs0, zs1, zs2])
      (refine wpH_t 1 _ (by exact gE rfl) (by kernel_rfl) (by intro _ _ _ h; exact h) (Or.inl ⟨by rfl, (by intro _ h; (try dsimp only at h); go_simp; first | done | with_reducible rfl)⟩) (by assumption) ?_; (try simp only [Act.put, zs0, zs1, zs2]))
      (refine wpH_t 2 _ (by exact gE rfl) (by kernel_rfl) (by intro _ _ _ h; exact h) (Or.inl ⟨by rfl, (by intro _ h; (try dsimp only at h); go_simp; first | done | with_reducible rfl)⟩) (by assumption) ?_; (try simp only [Act.put, zs0, zs1, zs2]))
      (refine wpH_t 4 _ (by exact gE rfl) (by kernel_rfl) (by intro _ _ _ h; exact h) (Or.inl ⟨by rfl, (by intro _ h; (try dsimp only at h); go_simp; first | done | with_reducible rfl)⟩) (by assumption) ?_; (try simp only [Act.put, zs0, zs1, zs2]))
      refine wpH_take (i := 5) (v := .agg (keyL x2 x3).toArray) (by exact gE rfl) (by kernel_rfl) (by kernel_rfl) (by kernel_rfl) (by intro _ _ _ h; exact h) (yieldsIf_load_mid (by rfl) 29 _ (by rfl) w.heap.size 3 (by rfl) (keyL x2 x3) _ (fun w' h => Blk.mid h.1 3 (keyL x2 x3) rfl) Tryd.underlying29 rfl sizeKey) (by assumption) ?_
      (try simp only [Act.put, zs0, zs1, zs2])
      (refine wpH_one (i := 3) (by exact gE rfl) (by kernel_rfl) (by rfl) ?_; (refine wp_append_xb (.tmp 52) (.tmp 53) (by rfl) 2 2 k d (by rfl) (by rfl) rfl hUl TB.drew (fun ad e j u hu => hUc ad e j u hu) hBn (fun t ht => (hUX t ht).drew) (by have := hML.out; omega) (Nat.le_of_lt z6) ?_; intro A7 c7 w7 X7 b7; refine ⟨⟨K6.drew.below b7 zK5, P6.drew.below b7 zP5⟩, ?_⟩); (try simp only [Act.put, zs0, zs1, zs2]))
      have b7' : Below w5.heap.size w6 w7 := (Below.refl _ w6).drew.trans b7
      have K7 := K6.below b7' zK5
      have P7 := P6.below b7' zP5
      have R7 := R6.below b7' zR5
      have B7 := B6.trans (b7'.mono zw5)
      have hH7 : Blk w7 w.heap.size 31 (tktL Ai ni ci x0 x1 x2 x3) ∧ Blk w7 n1 27 [.int .i64 l, .int .i64 v, .int .i64 m, .int .i64 st, .int .i64 po, .int .i64 pr, .int .u32 rd, .int .u32 rp, .int .u32 id, .int .u64 ref, .int .u64 org, .int .u64 rec, .int .u64 xmt] := ⟨K7, P7⟩
      have zw7 : w5.heap.size ≤ w7.heap.size := Nat.le_trans (Nat.le_of_lt z6) b7'.size
      have XX := X7.xs zw7
      have hcap := X7.cap
      have hfl : flds ([((260, id'), (Ai, ci)), ((772, CK), (A5, c5))] ++ U) = rpF id' CK L := by
        unfold rpF
        rw [← hU]
        simp [flds]
      rw [hfl] at XX
      have hrl : (rpF id' CK L).length = 2 + k := by unfold rpF; rw [List.length_append, hL]; rfl
      rw [List.length_append] at hcap
      simp only [List.length_cons, List.length_nil, hUl] at hcap
      have hSL := hMs A7 (2 + k) c7 w7 hrl XX (by omega) hcap.2.1 R7
      (refine wpH_one (i := 6) (by exact gE rfl) (by kernel_rfl) (by rfl) ?_; (go_simp; (with_reducible refine hSL.mono ?_); rintro e w8 ⟨A8, c8, N8, rfl, h8, O8, b8⟩; refine ⟨⟨K7.below b8 K7.lt, P7.below b8 P7.lt⟩, ?_⟩); (try simp only [Act.put, zs0, zs1, zs2]))
      have hH8 : Blk w8 w.heap.size 31 (tktL Ai ni ci x0 x1 x2 x3) ∧ Blk w8 n1 27 [.int .i64 l, .int .i64 v, .int .i64 m, .int .i64 st, .int .i64 po, .int .i64 pr, .int .u32 rd, .int .u32 rp, .int .u32 id, .int .u64 ref, .int .u64 org, .int .u64 rec, .int .u64 xmt] := ⟨K7.below b8 K7.lt, P7.below b8 P7.lt⟩
      (refine wpH_t 7 _ (by exact gE rfl) (by kernel_rfl) (by intro _ _ _ h; exact h) (Or.inl ⟨by rfl, (by intro _ h; (try dsimp only at h); go_simp; first | done | with_reducible rfl)⟩) (by assumption) ?_; (try simp only [Act.put, zs0, zs1, zs2]))
      (refine wpH_t 8 _ (by exact gE rfl) (by kernel_rfl) (by intro _ _ _ h; exact h) (Or.inl ⟨by rfl, (by intro _ h; (try dsimp only at h); go_simp; first | done | with_reducible rfl)⟩) (by assumption) ?_; (try simp only [Act.put, zs0, zs1, zs2]))
      (refine wpH_t 9 _ (by exact gE rfl) (by kernel_rfl) (by intro _ _ _ h; exact h) (Or.inl ⟨by rfl, (by intro _ h; (try dsimp only at h); go_simp; first | done | with_reducible rfl)⟩) (by assumption) ?_; (try simp only [Act.put, zs0, zs1, zs2]))
      (refine wpH_t 10 _ (by exact gE rfl) (by kernel_rfl) (by intro _ _ _ h; exact h) (Or.inl ⟨by rfl, (by intro _ h; (try dsimp only at h); go_simp; first | done | with_reducible rfl)⟩) (by assumption) ?_; (try simp only [Act.put, zs0, zs1, zs2]))
      refine wpH_done (by kernel_rfl) ?_ _
      have B8 := B7.trans (b8.mono B7.size)
      have O8' := O8.wide B7.size
      clear hHeld hH7 hH8 hSL XX X7 hfl hMs K6 K7 P6 P7 R6 R7 TB hUc hUX
      go_wp2_with fail
      go_ret2
      exact ⟨A8, c8, N8, rfl, h8, O8', B8⟩
end Go.Proofs.YtachhbbofemfdaaDoor
namespace Go.Proofs.YtachhbbofemfdaaDoor
open Go.RowKit
set_option linter.unusedSimpArgs false
set_option linter.unusedVariables false
set_option maxRecDepth 100000
theorem msg_all (l v m st po pr rd rp id ref org rec xmt : Int) (L : Flds) (k0 k1 : Int) (hk : nchk l v m st po pr = 0) (h6 : 0 ≤ rd ∧ rd ≤ 4294967295) (h7 : 0 ≤ rp ∧ rp ≤ 4294967295) (h8 : 0 ≤ id ∧ id ≤ 4294967295) (h9 : 0 ≤ ref ∧ ref ≤ 18446744073709551615) (h10 : 0 ≤ org ∧ org ≤ 18446744073709551615) (h11 : 0 ≤ rec ∧ rec ≤ 18446744073709551615) (h12 : 0 ≤ xmt ∧ xmt ≤ 18446744073709551615) (hv : AllV L) (h16 : L.length ≤ 16) (hid : (fdD L 260).length = 16) :
    spE (msgB l v m st po pr rd rp id ref org rec xmt L k0 k1) = 0 ∧ dcV (msgB l v m st po pr rd rp id ref org rec xmt L k0 k1) = ntp l v m st po pr rd rp id ref org rec xmt ∧ spL (msgB l v m st po pr rd rp id ref org rec xmt L k0 k1) = L ∧ spI (msgB l v m st po pr rd rp id ref org rec xmt L k0 k1) = fdD L 260 ∧ spA (msgB l v m st po pr rd rp id ref org rec xmt L k0 k1) = athB k0 k1 (bdyB l v m st po pr rd rp id ref org rec xmt L) ∧ spB (msgB l v m st po pr rd rp id ref org rec xmt L k0 k1) = bdyB l v m st po pr rd rp id ref org rec xmt L ∧ spC (msgB l v m st po pr rd rp id ref org rec xmt L k0 k1) = fdD L 516 := by
  obtain ⟨e1, e2, e3, e4, e5⟩ := msg_split l v m st po pr rd rp id ref org rec xmt L k0 k1 hk h6 h7 h8 h9 h10 h11 h12 hv h16
  have eI : spI (msgB l v m st po pr rd rp id ref org rec xmt L k0 k1) = fdD L 260 := by unfold spI; rw [e4]
  refine ⟨?_, e2, e4, eI, e5, msg_body l v m st po pr rd rp id ref org rec xmt L k0 k1, by unfold spC; rw [e4]⟩
  rcases spE_cases (msgB l v m st po pr rd rp id ref org rec xmt L k0 k1) with ⟨h1, h2⟩ | ⟨h1, h2, h3⟩ | ⟨h1, h2, h3, h4⟩ | ⟨h1, h2, h3, h4, h5⟩
  · exact absurd e1 h1
  · exact absurd e3 h2
  · exact absurd ⟨by rw [e5]; exact athB_len _ _ _, by rw [eI]; exact hid⟩ h3
  · exact h5
theorem msg_prv (l v m st po pr rd rp id ref org rec xmt : Int) (L : Flds) (k0 k1 : Int) (hk : nchk l v m st po pr = 0) (h6 : 0 ≤ rd ∧ rd ≤ 4294967295) (h7 : 0 ≤ rp ∧ rp ≤ 4294967295) (h8 : 0 ≤ id ∧ id ≤ 4294967295) (h9 : 0 ≤ ref ∧ ref ≤ 18446744073709551615) (h10 : 0 ≤ org ∧ org ≤ 18446744073709551615) (h11 : 0 ≤ rec ∧ rec ≤ 18446744073709551615) (h12 : 0 ≤ xmt ∧ xmt ≤ 18446744073709551615) (hv : AllV L) (h16 : L.length ≤ 16) (hid : (fdD L 260).length = 16) :
    prvB k0 k1 (spB (msgB l v m st po pr rd rp id ref org rec xmt L k0 k1)) (spA (msgB l v m st po pr rd rp id ref org rec xmt L k0 k1)) = true := by
  obtain ⟨_, _, _, _, e5, e6, _⟩ := msg_all l v m st po pr rd rp id ref org rec xmt L k0 k1 hk h6 h7 h8 h9 h10 h11 h12 hv h16 hid
  rw [e5, e6]
  exact ath_self _ _ _
theorem rqF_fd (n x : Int) (ck : List Int) : fdD (rqF n x ck) 260 = idB n x ∧ fdD (rqF n x ck) 516 = ck := ⟨rfl, rfl⟩
theorem rpF_fd (id ck : List Int) (L : Flds) : fdD (rpF id ck L) 260 = id := rfl
theorem rqF_valid (n x : Int) {ck : List Int} (h : ck.length = 52) (hb : Byt ck) : AllV (rqF n x ck) ∧ (rqF n x ck).length ≤ 16 := by
  refine ⟨fun t ht => ?_, by simp [rqF]⟩
  have hi := idB_len n x
  have : t = (260, idB n x) ∨ t = (516, ck) := by simpa [rqF] using ht
  rcases this with rfl | rfl
  · exact ⟨by simp [chkE, hi], idB_byt _ _⟩
  · exact ⟨by simp [chkE, h], hb⟩
theorem rpF_valid {id ck : List Int} {L : Flds} (h1 : id.length = 16) (h2 : ck.length = 52) (b1 : Byt id) (b2 : Byt ck) (h3 : AllV L) (h4 : L.length ≤ 14) : AllV (rpF id ck L) ∧ (rpF id ck L).length ≤ 16 := by
  refine ⟨fun t ht => ?_, by unfold rpF; rw [List.length_append]; simp only [List.length_cons, List.length_nil]; omega⟩
  unfold rpF at ht
  rw [List.mem_append] at ht
  rcases ht with ht | ht
  · have : t = (260, id) ∨ t = (772, ck) := by simpa using ht
    rcases this with rfl | rfl
    · exact ⟨by simp [chkE, h1], b1⟩
    · exact ⟨by simp [chkE, h2], b2⟩
  · exact h3 t ht
/-! ### what lies outside of a client -/
def Nw (w : World) (G G' : List Nat) : Prop := ∀ g ∈ G', g ∈ G ∨ w.heap.size ≤ g
theorem Nw.out {w : World} {G G' : List Nat} (h : Nw w G G') {k : Nat} (hk : k < w.heap.size) (hn : k ∉ G) : k ∉ G' := fun hm => (h k hm).elim hn (fun q => by omega)
def BlG (w : World) (G : List Nat) (k : Nat) (t : TypeId) (cs : List Value) : Prop := Blk w k t cs ∧ k ∉ G
section
variable {w w' : World} {G G' : List Nat} {k : Nat} {t : TypeId} {cs : List Value}
theorem BlG.go (h : BlG w G k t cs) (hk : Kp w G w') (hn : Nw w G G') : BlG w' G' k t cs := ⟨hk.blk h.1 h.2, hn.out h.1.lt h.2⟩
theorem BlG.below (h : BlG w G k t cs) (hb : Below w.heap.size w w') : BlG w' G k t cs := ⟨h.1.below hb h.1.lt, h.2⟩
theorem BlG.but {g : Nat} (h : BlG w G k t cs) (hb : But g w w') (hg : k ≠ g) : BlG w' G k t cs := ⟨h.1.but hb hg, h.2⟩
theorem Ck.go {lo : Nat} {u : CkT} (h : Ck w lo G u) (hk : Kp w G w') (hn : Nw w G G') : Ck w' lo G' u := h.kp hk h.2 (hn.out h.lt.2 h.2)
theorem Ck.below {lo : Nat} {u : CkT} (h : Ck w lo G u) (hb : Below w.heap.size w w') : Ck w' lo G u := h.kp (H := []) (Kp.of_below hb) (by simp) h.2
theorem Ck.but {lo g : Nat} {u : CkT} (h : Ck w lo G u) (hb : But g w w') (hg : u.1 ≠ g) : Ck w' lo G u := h.kp (H := [g]) (Kp.of_but hb (.inr (by simp))) (by simpa using hg) h.2
theorem Rnd.go (h : Rnd w) (hk : Kp w G w') (hn : 0 ∉ G) : Rnd w' := hk.rnd h hn
end
/-- a client: its block, its blocks, its keys, cookies, number and waiting identifiers -/
def Cli (w : World) (lo b : Nat) (G : List Nat) (k0 k1 k2 k3 : Int) (CK : List (List Int)) (N : Int) (I : List (List Int)) : Prop :=
  ∃ (g1 g2 : Nat) (T : List CkT) (A : Option Addr) (n c : Nat) (A2 : Option Addr) (n2 c2 : Nat), G = [b, g1, g2] ∧ T.map (fun t : CkT => t.2.2) = CK ∧ ClX w lo b g1 g2 k0 k1 k2 k3 T N I A n c A2 n2 c2
section
variable {w w' : World} {lo b : Nat} {G : List Nat} {k0 k1 k2 k3 N : Int} {CK I : List (List Int)}
theorem Cli.below (h : Cli w lo b G k0 k1 k2 k3 CK N I) (hb : Below w.heap.size w w') : Cli w' lo b G k0 k1 k2 k3 CK N I := by
  obtain ⟨g1, g2, T, A, n, c, A2, n2, c2, e1, e2, h⟩ := h
  exact ⟨g1, g2, T, A, n, c, A2, n2, c2, e1, e2, h.below hb (Nat.le_refl _)⟩
theorem Cli.rng (h : Cli w lo b G k0 k1 k2 k3 CK N I) : ∀ g ∈ G, lo ≤ g ∧ g < w.heap.size := by
  obtain ⟨g1, g2, T, A, n, c, A2, n2, c2, rfl, e2, h⟩ := h
  intro g hg
  have h1 := h.lob
  have h2 := h.lo1
  have h3 := h.lo2
  have h4 := h.lt1
  have h5 := h.lt2
  have h6 := h.blk.lt
  have : g = b ∨ g = g1 ∨ g = g2 := by simpa using hg
  rcases this with rfl | rfl | rfl <;> omega
theorem Cli.low {k : Nat} (h : Cli w lo b G k0 k1 k2 k3 CK N I) (hk : k < lo) : k ∉ G := fun hm => by have := (h.rng k hm).1; omega
theorem Cli.lens (h : Cli w lo b G k0 k1 k2 k3 CK N I) : (∀ d ∈ CK, d.length = 52 ∧ Byt d) ∧ ∀ l ∈ I, l.length = 16 ∧ Byt l := by
  obtain ⟨g1, g2, T, A, n, c, A2, n2, c2, rfl, rfl, h⟩ := h
  refine ⟨fun d hd => ?_, h.wt⟩
  obtain ⟨t, ht, rfl⟩ := List.mem_map.1 hd
  exact ⟨(h.ck t ht).2, (h.ck t ht).1.1.1⟩
end
theorem creq {w : World} {lo b : Nat} {G : List Nat} {k0 k1 k2 k3 N : Int} {ck : List Int} {CK I : List (List Int)} (l v m st po pr rd rp id ref org rec xmt nonce : Int) (h : Cli w lo b G k0 k1 k2 k3 (ck :: CK) N I) (hE : nchk l v m st po pr = 0) (h6 : 0 ≤ rd ∧ rd ≤ 4294967295) (h7 : 0 ≤ rp ∧ rp ≤ 4294967295) (h8 : 0 ≤ id ∧ id ≤ 4294967295) (h9 : 0 ≤ ref ∧ ref ≤ 18446744073709551615) (h10 : 0 ≤ org ∧ org ≤ 18446744073709551615) (h11 : 0 ≤ rec ∧ rec ≤ 18446744073709551615) (h12 : 0 ≤ xmt ∧ xmt ≤ 18446744073709551615)
    (hk0 : U64 k0) (hk1 : U64 k1) (hN : 0 ≤ N ∧ N < 18446744073709551615) (hno : U64 nonce) (hR : Rnd w) (hlo : 0 < lo) (hn8 : CK.length + 1 ≤ 8) (hn28 : I.length ≤ 8) :
    Calls Tryd.prog 21 #[.pointer (some ⟨b, 0, none⟩), ntp l v m st po pr rd rp id ref org rec xmt, .int .u64 nonce] w fun e w' => ∃ r c' Nn G', e = .returned (.tuple #[.slice (some ⟨r, 0, none⟩) Nn c', .int .i64 0]) ∧ (msgB l v m st po pr rd rp id ref org rec xmt (rqF (N + 1) nonce ck) k0 k1).length = Nn ∧
      Ck w' w.heap.size G' (r, c', msgB l v m st po pr rd rp id ref org rec xmt (rqF (N + 1) nonce ck) k0 k1) ∧ Cli w' lo b G' k0 k1 k2 k3 CK (N + 1) (wtN I (idB (N + 1) nonce)) ∧ Kp w G w' ∧ Nw w G G' := by
  obtain ⟨g1, g2, T, A, n, c, A2, n2, c2, rfl, e2, h⟩ := h
  match T, e2 with
  | t0 :: T, e2 =>
    simp only [List.map_cons, List.cons.injEq] at e2
    obtain ⟨rfl, rfl⟩ := e2
    have hn : n = T.length + 1 := by have := h.tn; simpa using this.symm
    rw [List.length_map] at hn8
    refine (req_ok l v m st po pr rd rp id ref org rec xmt nonce w h hE h6 h7 h8 h9 h10 h11 h12 hk0 hk1 hN hno hR hlo (by omega) (by rw [← h.wn]; exact hn28)).mono fun e w' ⟨r, c', Nn, g2', A', c1', A2', n2', c2', q1, q2, q3, q4, q5, q6⟩ => ?_
    refine ⟨r, c', Nn, [b, g1, g2'], q1, q2, q3, ⟨g1, g2', T, A', n - 1, c1', A2', n2', c2', rfl, rfl, q4⟩, q5, fun g hg => ?_⟩
    have : g = b ∨ g = g1 ∨ g = g2' := by simpa using hg
    rcases this with rfl | rfl | rfl
    · exact .inl (by simp)
    · exact .inl (by simp)
    · rcases q6 with q6 | q6
      · exact .inl (by rw [q6]; simp)
      · exact .inr q6
theorem creq_empty {w : World} {lo b : Nat} {G : List Nat} {k0 k1 k2 k3 N : Int} {I : List (List Int)} (l v m st po pr rd rp id ref org rec xmt nonce : Int) (h : Cli w lo b G k0 k1 k2 k3 [] N I) (hE : nchk l v m st po pr = 0) :
    Calls Tryd.prog 21 #[.pointer (some ⟨b, 0, none⟩), ntp l v m st po pr rd rp id ref org rec xmt, .int .u64 nonce] w fun e w' => e = .returned (.tuple #[.slice none 0 0, .int .i64 14]) ∧ Below w.heap.size w w' := by
  obtain ⟨g1, g2, T, A, n, c, A2, n2, c2, rfl, e2, h⟩ := h
  obtain rfl : T = [] := by simpa using e2
  obtain rfl : n = 0 := by have := h.tn; simpa using this.symm
  exact req_empty l v m st po pr rd rp id ref org rec xmt nonce w h hE
theorem cacc {w : World} {lo b : Nat} {G : List Nat} {k0 k1 k2 k3 N : Int} {CK I : List (List Int)} (A : Option Addr) (n c : Nat) (R : List Int) (l v m st po pr rd rp id ref org rec xmt : Int) (h : Cli w lo b G k0 k1 k2 k3 CK N I) (hk2 : U64 k2) (hk3 : U64 k3) (hR : Rnd w) (hn8 : CK.length ≤ 8) (hn28 : I.length ≤ 8)
    (hn : R.length = n) (hB : Bs w 0 w.heap.size A R) (hnc : n ≤ c) (hc : c ≤ 9223372036854775807) (hm : n ≤ 1000000) (hE : spE R = 0) (hV : dcV R = ntp l v m st po pr rd rp id ref org rec xmt) (hT : prvB k2 k3 (spB R) (spA R) = true) (k : Nat) (hk : k < I.length) (hF : fiI I (spI R) = k) (hFr : frB (spL R) = true) :
    Calls Tryd.prog 24 #[.pointer (some ⟨b, 0, none⟩), .slice A n c] w fun e w' => ∃ P1 p1 q1 G', e = .returned (.tuple #[ntp l v m st po pr rd rp id ref org rec xmt, .slice P1 p1 q1, .int .i64 0]) ∧ (spL R).length = p1 ∧ XO w' w.heap.size P1 q1 (spL R) ∧
      Cli w' lo b G' k0 k1 k2 k3 (ckN CK (frs (spL R))) N (I.take k ++ I.drop (k + 1)) ∧ Kp w G w' ∧ Nw w G G' := by
  obtain ⟨g1, g2, T, Ac, nc, cc, A2, n2, c2, rfl, rfl, h⟩ := h
  rw [List.length_map, h.tn] at hn8
  rw [h.wn] at hn28 hk
  refine (acc_some w h hk2 hk3 hR hn8 hn28 A n c R hn hB hnc hc hm hE l v m st po pr rd rp id ref org rec xmt hV hT k hk hF).mono fun e w' hh => ?_
  rcases hh with ⟨h1, _⟩ | ⟨_, g1', T', Ac', nc', cc', c2c', P1, p1, q1, z1, z2, z3, z4, z5, z6, z7⟩
  · rw [h1] at hFr; cases hFr
  · refine ⟨P1, p1, q1, [b, g1', g2], z1, z2, z3, ⟨g1', g2, T', Ac', nc', cc', A2, n2 - 1, c2c', rfl, z5, z4⟩, z6, fun g hg => ?_⟩
    have : g = b ∨ g = g1' ∨ g = g2 := by simpa using hg
    rcases this with rfl | rfl | rfl
    · exact .inl (by simp)
    · rcases z7 with q6 | q6
      · exact .inl (by rw [q6]; simp)
      · exact .inr q6
    · exact .inl (by simp)
theorem cacc_none {w : World} {lo b : Nat} {G : List Nat} {k0 k1 k2 k3 N : Int} {CK I : List (List Int)} (A : Option Addr) (n c : Nat) (R : List Int) (l v m st po pr rd rp id ref org rec xmt : Int) (h : Cli w lo b G k0 k1 k2 k3 CK N I) (hk2 : U64 k2) (hk3 : U64 k3) (hR : Rnd w) (hn8 : CK.length ≤ 8) (hn28 : I.length ≤ 8)
    (hn : R.length = n) (hB : Bs w 0 w.heap.size A R) (hnc : n ≤ c) (hc : c ≤ 9223372036854775807) (hm : n ≤ 1000000) (hE : spE R = 0) (hV : dcV R = ntp l v m st po pr rd rp id ref org rec xmt) (hT : prvB k2 k3 (spB R) (spA R) = true) (hF : fiI I (spI R) = -1) :
    Calls Tryd.prog 24 #[.pointer (some ⟨b, 0, none⟩), .slice A n c] w fun e w' => e = .returned (.tuple #[ntp0, .slice none 0 0, .int .i64 11]) ∧ Below w.heap.size w w' := by
  obtain ⟨g1, g2, T, Ac, nc, cc, A2, n2, c2, rfl, rfl, h⟩ := h
  rw [List.length_map, h.tn] at hn8
  rw [h.wn] at hn28
  exact acc_none w h hk2 hk3 hR hn8 hn28 A n c R hn hB hnc hc hm hE l v m st po pr rd rp id ref org rec xmt hV hT hF
theorem ccount {w : World} {lo b : Nat} {G : List Nat} {k0 k1 k2 k3 N : Int} {CK I : List (List Int)} (h : Cli w lo b G k0 k1 k2 k3 CK N I) :
    Calls Tryd.prog 23 #[.pointer (some ⟨b, 0, none⟩)] w fun e w' => e = .returned (.int .i64 CK.length) ∧ w = w' := by
  obtain ⟨g1, g2, T, Ac, nc, cc, A2, n2, c2, rfl, rfl, h⟩ := h
  rw [List.length_map, h.tn]
  exact cookies_ok w h
theorem cnew (k0 k1 k2 k3 : Int) (B : Option Addr) (m d : Nat) (M : List (List Int)) (w : World) (hm : m ≤ 8) (hM : M.length = m) (hL : Ls w w.heap.size B M) (hmd : m ≤ d) (h52 : ∀ l ∈ M, l.length = 52) :
    Calls Tryd.prog 20 #[keyV k0 k1, keyV k2 k3, .slice B m d] w fun e w' => ∃ b G, e = .returned (.pointer (some ⟨b, 0, none⟩)) ∧ Cli w' w.heap.size b G k0 k1 k2 k3 M 0 [] ∧ Below w.heap.size w w' := by
  refine (newcl_any k0 k1 k2 k3 B m d M w hm hM hL hmd).mono fun e w' hh => ?_
  rcases hh with ⟨_, ⟨l, hl, h1⟩, _⟩ | ⟨b, g1, T, A, n, c, h1, h2, h3, h4⟩
  · exact absurd (h52 l hl) h1
  · exact ⟨b, [b, g1, b], h1, ⟨g1, b, T, A, n, c, none, 0, 0, rfl, h3, h2⟩, h4⟩
end Go.Proofs.YtachhbbofemfdaaDoor
namespace Go.Proofs.YtachhbbofemfdaaDoor
open Go.RowKit
set_option linter.unusedSimpArgs false
set_option linter.unusedVariables false
set_option maxRecDepth 100000
theorem opV_parts {s k g k0 k1 k2 k3 E : Int} {l : List Int} (h : opV s k g l = .tuple #[keyV k0 k1, keyV k2 k3, .int .i64 E]) : opE s k g l = E ∧ opK s k g l 0 = k0 ∧ opK s k g l 1 = k1 ∧ opK s k g l 2 = k2 ∧ opK s k g l 3 = k3 := by
  rw [opV_val] at h
  simp only [Value.tuple.injEq, Array.mk.injEq, List.cons.injEq, Value.agg.injEq, Value.int.injEq, true_and, and_true] at h
  obtain ⟨⟨h0, h1⟩, ⟨h2, h3⟩, h4⟩ := h
  exact ⟨h4, h0, h1, h2, h3⟩
theorem sopen (l v m st po pr rd rp id ref org rec xmt n x : Int) (ck : List Int) (k0 k1 k2 k3 s kk g : Int) (bj : Nat) (A : Option Addr) (N c : Nat) (w : World) (hJ : Blk w bj 84 (jarL s kk g)) (hs : U64 s) (hg : Gn g) (hkk : 1 ≤ kk ∧ kk ≤ 8) (hR : Rnd w) (hE : nchk l v m st po pr = 0) (h6 : 0 ≤ rd ∧ rd ≤ 4294967295) (h7 : 0 ≤ rp ∧ rp ≤ 4294967295) (h8 : 0 ≤ id ∧ id ≤ 4294967295) (h9 : 0 ≤ ref ∧ ref ≤ 18446744073709551615) (h10 : 0 ≤ org ∧ org ≤ 18446744073709551615) (h11 : 0 ≤ rec ∧ rec ≤ 18446744073709551615) (h12 : 0 ≤ xmt ∧ xmt ≤ 18446744073709551615)
    (h52 : ck.length = 52) (hcb : Byt ck) (hop : opV s kk g ck = .tuple #[keyV k0 k1, keyV k2 k3, .int .i64 0]) (hn : (msgB l v m st po pr rd rp id ref org rec xmt (rqF n x ck) k0 k1).length = N) (hB : Bs w 0 w.heap.size A (msgB l v m st po pr rd rp id ref org rec xmt (rqF n x ck) k0 k1)) (hnc : N ≤ c) (hc : c ≤ 9223372036854775807) (hm : N ≤ 1000000) :
    Calls Tryd.prog 11 #[.pointer (some ⟨bj, 0, none⟩), .slice A N c] w fun e w' => ∃ r c', e = .returned (.tuple #[ntp l v m st po pr rd rp id ref org rec xmt, .agg (tktL (some ⟨r, 0, none⟩) 16 c' k0 k1 k2 k3).toArray, .int .i64 0]) ∧ Ow w' w.heap.size (some ⟨r, 0, none⟩) c' (idB n x) ∧ Below w.heap.size w w' := by
  obtain ⟨hv, h16⟩ := rqF_valid n x h52 hcb
  have hid : (fdD (rqF n x ck) 260).length = 16 := by rw [(rqF_fd n x ck).1]; exact idB_len n x
  obtain ⟨e1, e2, e3, e4, e5, e6, e7⟩ := msg_all l v m st po pr rd rp id ref org rec xmt (rqF n x ck) k0 k1 hE h6 h7 h8 h9 h10 h11 h12 hv h16 hid
  have hp := msg_prv l v m st po pr rd rp id ref org rec xmt (rqF n x ck) k0 k1 hE h6 h7 h8 h9 h10 h11 h12 hv h16 hid
  rw [(rqF_fd n x ck).1] at e4
  rw [(rqF_fd n x ck).2] at e7
  obtain ⟨o0, o1, o2, o3, o4⟩ := opV_parts hop
  have h := gopen_ok bj s kk g A N c _ w hJ hs hg hkk hR hn hB hnc hc hm e1 l v m st po pr rd rp id ref org rec xmt e2 (by rw [e7]; exact h52) (by rw [e7]; exact o0) (by rw [e7, o1, o2]; exact hp)
  rw [e7, o1, o2, o3, o4, e4] at h
  exact h
theorem sreply (l v m st po pr rd rp id ref org rec xmt nonce : Int) (id' : List Int) (k0 k1 k2 k3 s kk g : Int) (bj : Nat) (r ci : Nat) (w : World) (hJ : Blk w bj 84 (jarL s kk g)) (hs : U64 s) (hg : Gn g) (hR : Rnd w) (hE : nchk l v m st po pr = 0) (h6 : 0 ≤ rd ∧ rd ≤ 4294967295) (h7 : 0 ≤ rp ∧ rp ≤ 4294967295) (h8 : 0 ≤ id ∧ id ≤ 4294967295) (h9 : 0 ≤ ref ∧ ref ≤ 18446744073709551615) (h10 : 0 ≤ org ∧ org ≤ 18446744073709551615) (h11 : 0 ≤ rec ∧ rec ≤ 18446744073709551615) (h12 : 0 ≤ xmt ∧ xmt ≤ 18446744073709551615) (hno : U64 nonce) (hk0 : U64 k0) (hk1 : U64 k1) (hk2 : U64 k2) (hk3 : U64 k3)
    (hil : id'.length = 16) (hI : Bs w 0 w.heap.size (some ⟨r, 0, none⟩) id') (hic : 16 ≤ ci) (hicc : ci ≤ 9223372036854775807) :
    Calls Tryd.prog 17 #[.pointer (some ⟨bj, 0, none⟩), .agg (tktL (some ⟨r, 0, none⟩) 16 ci k0 k1 k2 k3).toArray, ntp l v m st po pr rd rp id ref org rec xmt, .slice none 0 0, .int .u64 nonce] w fun e w' => ∃ A c n, e = .returned (.tuple #[.slice A n c, .int .i64 0]) ∧ (msgB l v m st po pr rd rp id ref org rec xmt (rpF id' (ckB s g nonce k0 k1 k2 k3) []) k2 k3).length = n ∧ Ow w' w.heap.size A c (msgB l v m st po pr rd rp id ref org rec xmt (rpF id' (ckB s g nonce k0 k1 k2 k3) []) k2 k3) ∧ Below w.heap.size w w' :=
  greply_ok bj (some ⟨r, 0, none⟩) 16 ci k0 k1 k2 k3 l v m st po pr rd rp id ref org rec xmt nonce none 0 0 [] w rfl Xs.nil (Nat.le_refl _) (by omega) (fun k hk => absurd hk (by omega)) s kk g id' hJ hs hg hR hno hk0 hk1 hk2 hk3 (fun _ => rfl) hI hil hic hicc (fun h => by cases h) h6 h7 h8 h9 h10 h11 h12 (by rw [hE]; rfl)
theorem head_any (w : World) : Calls Tryd.prog 22 #[] w fun e w' => e = .returned (ntp 0 4 3 0 0 0 0 0 0 0 0 0 9) ∧ Below w.heap.size w w' := by
  go_enter Tryd.func22, Tryd.ntmps22
  go_wp2_with (first
    | (refine wpl_alloc (by rfl) 27 (by rfl) (.agg (zN).toArray) (zN) zeroNtp rfl ?_; intro w1 J1 s1 b1)
    | (refine wpl_store (by rfl) 27 _ _ (by rfl) w.heap.size (by rfl) _ (by rfl) [.int .i64 0, .int .i64 4, .int .i64 3, .int .i64 0, .int .i64 0, .int .i64 0, .int .u32 0, .int .u32 0, .int .u32 0, .int .u64 0, .int .u64 0, .int .u64 0, .int .u64 9] rfl 27 _ J1 (by rfl) _ sizeNtp (by rfl) (by simp [Value.oneCell']) ?_; intro w2 J2 s2 g2))
  refine bodyPost_ret (res_c Tryd.results22 (by rfl) J2 Tryd.underlying27 rfl sizeNtp (by rfl)) rfl ?_
  exact ⟨rfl, b1.trans (g2.below (by omega) (Nat.le_refl _))⟩
end Go.Proofs.YtachhbbofemfdaaDoor
namespace Go.Proofs.YtachhbbofemfdaaDoor
open Go.RowKit
set_option linter.unusedSimpArgs false
set_option linter.unusedVariables false
set_option maxRecDepth 100000
/-- what Accept answers -/
def accE (k2 k3 : Int) (I : List (List Int)) (b : List Int) : Int :=
  if spE b ≠ 0 then spE b else if prvB k2 k3 (spB b) (spA b) = false then 16 else if fiI I (spI b) = -1 then 11 else if frB (spL b) = false then 7 else 0
def accV (k2 k3 : Int) (I : List (List Int)) (b : List Int) : Value := if accE k2 k3 I b = 0 then dcV b else ntp0
def accL (k2 k3 : Int) (I : List (List Int)) (b : List Int) : Flds := if accE k2 k3 I b = 0 then spL b else []
def accC (k2 k3 : Int) (I : List (List Int)) (b : List Int) (CK : List (List Int)) : List (List Int) := if accE k2 k3 I b = 0 then ckN CK (frs (spL b)) else CK
def accI (k2 k3 : Int) (I : List (List Int)) (b : List Int) : List (List Int) := if accE k2 k3 I b = 0 then I.take (fiI I (spI b)).toNat ++ I.drop ((fiI I (spI b)).toNat + 1) else I
theorem accV_form (k2 k3 : Int) (I : List (List Int)) (b : List Int) : ∃ l v m st po pr rd rp id ref org rec xmt : Int, accV k2 k3 I b = ntp l v m st po pr rd rp id ref org rec xmt := by
  unfold accV
  split
  · obtain ⟨l, v, m, st, po, pr, rd, rp, id, ref, org, rec, xmt, hV, _⟩ := dcV_form b
    exact ⟨_, _, _, _, _, _, _, _, _, _, _, _, _, hV⟩
  · exact ⟨_, _, _, _, _, _, _, _, _, _, _, _, _, rfl⟩
theorem fiI_cases (I : List (List Int)) (x : List Int) : fiI I x = -1 ∨ ∃ k : Nat, k < I.length ∧ fiI I x = k := by
  unfold fiI
  cases h : I.findIdx? (· == x) with
  | none => exact .inl rfl
  | some k =>
    refine .inr ⟨k, ?_, rfl⟩
    have := List.findIdx?_eq_some_iff_getElem.1 h
    exact this.1
theorem accE_cases (k2 k3 : Int) (I : List (List Int)) (b : List Int) :
    (spE b ≠ 0 ∧ accE k2 k3 I b = spE b) ∨ (spE b = 0 ∧ prvB k2 k3 (spB b) (spA b) = false ∧ accE k2 k3 I b = 16) ∨ (spE b = 0 ∧ prvB k2 k3 (spB b) (spA b) = true ∧ fiI I (spI b) = -1 ∧ accE k2 k3 I b = 11) ∨
      (spE b = 0 ∧ prvB k2 k3 (spB b) (spA b) = true ∧ (∃ k : Nat, k < I.length ∧ fiI I (spI b) = k) ∧ frB (spL b) = false ∧ accE k2 k3 I b = 7) ∨ (spE b = 0 ∧ prvB k2 k3 (spB b) (spA b) = true ∧ (∃ k : Nat, k < I.length ∧ fiI I (spI b) = k) ∧ frB (spL b) = true ∧ accE k2 k3 I b = 0) := by
  unfold accE
  by_cases h1 : spE b = 0
  · cases h2 : prvB k2 k3 (spB b) (spA b) with
    | false => exact .inr (.inl ⟨h1, rfl, by rw [if_neg (by omega), if_pos rfl]⟩)
    | true =>
      rcases fiI_cases I (spI b) with h3 | ⟨k, hk, h3⟩
      · exact .inr (.inr (.inl ⟨h1, rfl, h3, by rw [if_neg (by omega), if_neg (by simp), if_pos h3]⟩))
      · cases h4 : frB (spL b) with
        | false => exact .inr (.inr (.inr (.inl ⟨h1, rfl, ⟨k, hk, h3⟩, rfl, by rw [if_neg (by omega), if_neg (by simp), if_neg (by omega), if_pos rfl]⟩)))
        | true => exact .inr (.inr (.inr (.inr ⟨h1, rfl, ⟨k, hk, h3⟩, rfl, by rw [if_neg (by omega), if_neg (by simp), if_neg (by omega), if_neg (by simp)]⟩)))
  · exact .inl ⟨h1, by rw [if_pos h1]⟩
end Go.Proofs.YtachhbbofemfdaaDoor
namespace Go.Proofs.YtachhbbofemfdaaDoor
open Go.RowKit
set_option linter.unusedSimpArgs false
set_option linter.unusedVariables false
set_option maxRecDepth 100000
/-- the struct lies in block b (its cells are F of its two slices); the rows T in g1, U in g2 -/
structure TwX (w : World) (lo b g1 g2 : Nat) (t : TypeId) (F : Value → Value → List Value) (p q : Nat) (T U : List CkT) (A : Option Addr) (n c : Nat) (A2 : Option Addr) (n2 c2 : Nat) : Prop where
  blk : Blk w b t (F (.slice A n c) (.slice A2 n2 c2))
  tn : T.length = n
  un : U.length = n2
  cs : Rw w 1 g1 [b, g2] A n c (T.map ckV)
  ws : Rw w 1 g2 [b, g1] A2 n2 c2 (U.map ckV)
  ck : ∀ t ∈ T, Ck w lo [b, g1, g2] t ∧ t.2.2.length = p
  wk : ∀ t ∈ U, Ck w lo [b, g1, g2] t ∧ t.2.2.length = q
  lob : lo ≤ b
  lo1 : lo ≤ g1
  lo2 : lo ≤ g2
  lt1 : g1 < w.heap.size
  lt2 : g2 < w.heap.size
section
variable {w w' : World} {lo b g1 g2 : Nat} {t : TypeId} {F : Value → Value → List Value} {p q : Nat} {T U : List CkT} {A A2 : Option Addr} {n c n2 c2 : Nat}
theorem Ck.swap {w : World} {lo b g1 g2 : Nat} {u : CkT} (h : Ck w lo [b, g1, g2] u) : Ck w lo [b, g2, g1] u := ⟨h.1, by
  have := h.2
  simp at this ⊢
  exact ⟨this.1, this.2.2, this.2.1⟩⟩
theorem TwX.swap (h : TwX w lo b g1 g2 t F p q T U A n c A2 n2 c2) : TwX w lo b g2 g1 t (fun x y => F y x) q p U T A2 n2 c2 A n c :=
  ⟨h.blk, h.un, h.tn, h.ws, h.cs, fun u hu => ⟨(h.wk u hu).1.swap, (h.wk u hu).2⟩, fun u hu => ⟨(h.ck u hu).1.swap, (h.ck u hu).2⟩, h.lob, h.lo2, h.lo1, h.lt2, h.lt1⟩
theorem TwX.kp {H : List Nat} (h : TwX w lo b g1 g2 t F p q T U A n c A2 n2 c2) (hk : Kp w H w') (hb : b ∉ H) (h1 : g1 ∉ H) (h2 : g2 ∉ H) (ht : ∀ u ∈ T ++ U, u.1 ∉ H) : TwX w' lo b g1 g2 t F p q T U A n c A2 n2 c2 :=
  ⟨hk.blk h.blk hb, h.tn, h.un, h.cs.kp hk (by omega) (fun _ _ => h1), h.ws.kp hk (by omega) (fun _ _ => h2), fun u hu => ⟨(h.ck u hu).1.kp hk (ht u (List.mem_append_left _ hu)) (h.ck u hu).1.2, (h.ck u hu).2⟩,
    fun u hu => ⟨(h.wk u hu).1.kp hk (ht u (List.mem_append_right _ hu)) (h.wk u hu).1.2, (h.wk u hu).2⟩, h.lob, h.lo1, h.lo2, Nat.lt_of_lt_of_le h.lt1 hk.size, Nat.lt_of_lt_of_le h.lt2 hk.size⟩
theorem TwX.below {B : Nat} (h : TwX w lo b g1 g2 t F p q T U A n c A2 n2 c2) (hb : Below B w w') (hB : w.heap.size ≤ B) : TwX w' lo b g1 g2 t F p q T U A n c A2 n2 c2 :=
  h.kp (H := []) ((Kp.refl w []).below hb hB) (by simp) (by simp) (by simp) (fun _ _ => by simp)
theorem TwX.drew (h : TwX w lo b g1 g2 t F p q T U A n c A2 n2 c2) : TwX w.drew lo b g1 g2 t F p q T U A n c A2 n2 c2 := h.kp (H := []) ((Kp.refl w []).drew) (by simp) (by simp) (by simp) (fun _ _ => by simp)
theorem TwX.fun_eq {F' : Value → Value → List Value} (h : TwX w lo b g1 g2 t F p q T U A n c A2 n2 c2) (hF : ∀ x y, F' x y = F x y) : TwX w lo b g1 g2 t F' p q T U A n c A2 n2 c2 := by
  have e : F' = F := funext fun x => funext fun y => hF x y
  rw [e]
  exact h
theorem TwX.rng (h : TwX w lo b g1 g2 t F p q T U A n c A2 n2 c2) : ∀ g ∈ [b, g1, g2], lo ≤ g ∧ g < w.heap.size := by
  intro g hg
  have h1 := h.lob
  have h2 := h.lo1
  have h3 := h.lo2
  have h4 := h.lt1
  have h5 := h.lt2
  have h6 := h.blk.lt
  have : g = b ∨ g = g1 ∨ g = g2 := by simpa using hg
  rcases this with rfl | rfl | rfl <;> omega
theorem TwX.bfp (h : TwX w lo b g1 g2 t F p q T U A n c A2 n2 c2) : b ∉ fp c g1 := fun hm => by
  obtain ⟨hc, e⟩ := fp_mem hm
  exact (h.cs.lt hc (by omega)).2 (by rw [← e]; simp)
/-- one element more: the row has grown, then the field is written -/
theorem TwX.push' {x : World} {u : CkT} {g' c' : Nat} {A' : Option Addr} (h : TwX w lo b g1 g2 t F p q T U A n c A2 n2 c2) (hu : Ow w lo (some ⟨u.1, 0, none⟩) u.2.1 u.2.2) (hup : u.2.2.length = p) (hun : u.1 ∉ [b, g1, g2])
    (hr : Rw w' 1 g' [b, g2] A' (n + 1) c' (T.map ckV ++ [ckV u])) (hk : Kp w (fp c g1) w') (hg : g' = g1 ∨ w.heap.size ≤ g') (hl : g' < w'.heap.size) (hgx : But b w' x) (hBx : Blk x b t (F (.slice A' (n + 1) c') (.slice A2 n2 c2))) :
    TwX x lo b g' g2 t F p q (T ++ [u]) U A' (n + 1) c' A2 n2 c2 ∧ Kp w [b, g1] x ∧ w.heap.size ≤ x.heap.size := by
  have hb1 : b ∉ fp c g1 := fun hm => by
    obtain ⟨hc, rfl⟩ := fp_mem hm
    exact (h.cs.lt hc (by omega)).2 (by simp)
  have h21 : c2 ≠ 0 → g2 ∉ [b, g1] → g2 ∉ fp c g1 := fun _ hx hm => by
    obtain ⟨_, rfl⟩ := fp_mem hm
    exact hx (by simp)
  have hsz := hgx.size
  have hk2 : Kp w' [b] x := Kp.of_but hgx (.inr (by simp))
  have hgb : g' ∉ [b, g2] := (hr.lt (by have := hr.2.1; omega) (by omega)).2
  have hgb' : g' ≠ b ∧ g' ≠ g2 := by simpa using hgb
  have tl := hu.blt u.1 rfl
  have hn' : u.1 ≠ b ∧ u.1 ≠ g1 ∧ u.1 ≠ g2 := by simpa using hun
  have key : ∀ v : CkT, Ck w lo [b, g1, g2] v → Ck x lo [b, g', g2] v := fun v hv => by
    have hv3 : v.1 ≠ b ∧ v.1 ≠ g1 ∧ v.1 ≠ g2 := by simpa using hv.2
    have hvl := hv.lt
    refine (hv.kp hk (fun hm => hv3.2.1 (fp_mem hm).2) hv.2).kp hk2 (by simpa using hv3.1) ?_
    simp
    refine ⟨hv3.1, fun e => ?_, hv3.2.2⟩
    rcases hg with hg | hg
    · exact hv3.2.1 (e.trans hg)
    · omega
  refine ⟨⟨hBx, by rw [List.length_append, h.tn]; rfl, h.un, ?_, ?_, fun v hv => ?_, fun v hv => ⟨key v (h.wk v hv).1, (h.wk v hv).2⟩, h.lob, ?_, h.lo2, Nat.lt_of_lt_of_le hl hsz, Nat.lt_of_lt_of_le (Nat.lt_of_lt_of_le h.lt2 hk.size) hsz⟩, ?_, Nat.le_trans hk.size hsz⟩
  · rw [List.map_append]
    exact hr.kp hk2 (by omega) (fun _ _ => by simpa using hgb'.1)
  · refine ((h.ws.kp hk (by omega) h21).av' fun _ hx => ?_).kp hk2 (by omega) fun _ hx => ?_
    · have h3 : g2 ≠ b ∧ g2 ≠ g1 := by simpa using hx
      simp
      exact ⟨h3.1, fun e => hgb'.2 e.symm⟩
    · have h3 : g2 ≠ b ∧ g2 ≠ g' := by simpa using hx
      simpa using h3.1
  · rw [List.mem_append] at hv
    rcases hv with hv | hv
    · exact ⟨key v (h.ck v hv).1, (h.ck v hv).2⟩
    · obtain rfl : v = u := by simpa using hv
      exact ⟨key v ⟨hu, hun⟩, hup⟩
  · rcases hg with hg | hg
    · rw [hg]; exact h.lo1
    · have := h.lt1; have := h.lo1; omega
  · exact (hk.less fun g hm => .inr (by rw [(fp_mem hm).2]; simp)).but hgx (.inr (by simp))
/-- one element more: the row has grown, then the field is written -/
theorem TwX.push {x : World} {u : CkT} {g' c' i : Nat} {A' : Option Addr} (h : TwX w lo b g1 g2 t F p q T U A n c A2 n2 c2) (hF : ∀ x' x y, (F x y).set i x' = F x' y) (hu : Ow w lo (some ⟨u.1, 0, none⟩) u.2.1 u.2.2) (hup : u.2.2.length = p) (hun : u.1 ∉ [b, g1, g2])
    (hr : Rw w' 1 g' [b, g2] A' (n + 1) c' (T.map ckV ++ [ckV u])) (hk : Kp w (fp c g1) w') (hg : g' = g1 ∨ w.heap.size ≤ g') (hl : g' < w'.heap.size) (hx : x = w'.setCell ⟨b, i, none⟩ (.slice A' (n + 1) c')) :
    TwX x lo b g' g2 t F p q (T ++ [u]) U A' (n + 1) c' A2 n2 c2 ∧ Kp w [b, g1] x ∧ w.heap.size ≤ x.heap.size := by
  refine h.push' hu hup hun hr hk hg hl (by rw [hx]; exact but_setCell _ _ _ _) ?_
  rw [hx, ← hF (.slice A' (n + 1) c') (.slice A n c)]
  exact (hk.blk h.blk h.bfp).set i _
/-- the struct is written: other cells, rows that are cut -/
theorem TwX.upd {F' : Value → Value → List Value} {T' U' : List CkT} {A' A2' : Option Addr} {n' c' n2' c2' : Nat} (h : TwX w lo b g1 g2 t F p q T U A n c A2 n2 c2) (hb : But b w w') (hB : Blk w' b t (F' (.slice A' n' c') (.slice A2' n2' c2')))
    (hT : ∀ v ∈ T', v ∈ T) (hU : ∀ v ∈ U', v ∈ U) (tn : T'.length = n') (un : U'.length = n2') (cs : Rw w 1 g1 [b, g2] A' n' c' (T'.map ckV)) (ws : Rw w 1 g2 [b, g1] A2' n2' c2' (U'.map ckV)) :
    TwX w' lo b g1 g2 t F' p q T' U' A' n' c' A2' n2' c2' := by
  have hk : Kp w [b] w' := Kp.of_but hb (.inr (by simp))
  have key : ∀ v : CkT, Ck w lo [b, g1, g2] v → Ck w' lo [b, g1, g2] v := fun v hv => by
    have : v.1 ≠ b ∧ v.1 ≠ g1 ∧ v.1 ≠ g2 := by simpa using hv.2
    exact hv.kp hk (by simpa using this.1) hv.2
  refine ⟨hB, tn, un, cs.kp hk (by omega) (fun _ hx => ?_), ws.kp hk (by omega) (fun _ hx => ?_), fun v hv => ⟨key v (h.ck v (hT v hv)).1, (h.ck v (hT v hv)).2⟩, fun v hv => ⟨key v (h.wk v (hU v hv)).1, (h.wk v (hU v hv)).2⟩, h.lob, h.lo1, h.lo2, Nat.lt_of_lt_of_le h.lt1 hk.size, Nat.lt_of_lt_of_le h.lt2 hk.size⟩
  · have : g1 ≠ b ∧ g1 ≠ g2 := by simpa using hx
    simpa using this.1
  · have : g2 ≠ b ∧ g2 ≠ g1 := by simpa using hx
    simpa using this.1
end
theorem TwX.new {w : World} {lo b : Nat} {t : TypeId} {F : Value → Value → List Value} {p q : Nat} (h : Blk w b t (F (.slice none 0 0) (.slice none 0 0))) (hlo : lo ≤ b) : TwX w lo b b b t F p q [] [] none 0 0 none 0 0 :=
  ⟨h, rfl, rfl, Rw.nil _ _ _ _, Rw.nil _ _ _ _, fun t ht => by (cases ht), fun l hl => by (cases hl), hlo, hlo, hlo, h.lt, h.lt⟩
section
variable {P : Program} {w : World} {size g n c : Nat} {av : List Nat} {A : Option Addr} {xs : List Value} {o : Oper} {a : Act} {K : Act → World → Prop} {Q : Exit → Act → World → Prop}
/-- an append of no element gives back what it was given -/
theorem run_append_none (t ty E : TypeId) (i : TypeInfo) (ht : P.underlying t = some (.slice E)) (hi : P.info? E = some i) (g o n c : Nat) (hnc : n ≤ c) (ad : Addr) (c' : Nat) :
    (Builtin.append_ #[t, t] ty #[.slice (some ⟨g, o, none⟩) n c, .slice (some ad) 0 c']).run P w = .ok (.slice (some ⟨g, o, none⟩) n c) w := by
  have h := run_append_room_cells (P := P) w t ty E i ht hi g o n c ad 0 c' [] (by simp) (fun j u hu => by cases hu) (fun u hu => by cases hu) (by omega) (fun j hj => absurd hj (by simp)) (fun j hj => absurd hj (by simp))
  simpa [World.setCells] using h
end
/-- the first elements of a row -/
theorem Rw.take {w : World} {size g : Nat} {av : List Nat} {A : Option Addr} {n c : Nat} {xs : List Value} (h : Rw w size g av A n c xs) {k : Nat} (hk : k ≤ n) : Rw w size g av A k c (xs.take (k * size)) := by
  obtain ⟨h1, h2, h3, h4⟩ := h
  have e := Nat.mul_le_mul_right size hk
  refine ⟨by rw [List.length_take, h1]; omega, by omega, h3, ?_⟩
  rcases h4 with h4 | ⟨h0, o, e, h5, h6⟩
  · exact .inl h4
  · refine .inr ⟨h0, o, e, fun j hj => ?_, h6⟩
    rw [List.getElem?_take, if_pos hj]
    exact h5 j (by omega)
end Go.Proofs.YtachhbbofemfdaaDoor
