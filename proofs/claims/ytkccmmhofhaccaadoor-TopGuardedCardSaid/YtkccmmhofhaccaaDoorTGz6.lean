/- A header that was written is read back: Decode of what Encode wrote, with whatever stands behind it. A list of extension fields that came in, opened. TopPackets (G9; P19, P20): for every input the law returns true, and its arguments read afterwards as before. No condition. Small lemmas about worlds for regions that draw their order. No function of the program occurs here. The tag of bytes under a key: what both Tags compute, and the contracts of the closures. The contracts of Tag and Derive, of the program and of the reference. What a function returns whose results lie in memory. No function of the program occurs here. Derive, and the keys of a generation, of the program and of the reference. -/
import Derived.Test.YtkccmmhofhaccaaDoorTGz5
import Derived.Test.YtkccmmhofhaccaaDoorTGz2
import Derived.Test.YtkccmmhofhaccaaDoorTGz4
import Derived.Test.YtkccmmhofhaccaaDoorTGz1
import Derived.Test.YtkccmmhofhaccaaDoorTGz3
namespace Go.Proofs.YtkccmmhofhaccaaDoor
open Go.RowKit
set_option linter.unusedSimpArgs false
set_option linter.unusedVariables false
set_option maxRecDepth 100000
theorem decode_enc (l v m st po pr rd rp id ref org rec xmt : Int) (A : Option Addr) (n c : Nat) (beh : List Int) (w : World) (hk : nchk l v m st po pr = 0) (h6 : 0 ≤ rd ∧ rd ≤ 4294967295) (h7 : 0 ≤ rp ∧ rp ≤ 4294967295) (h8 : 0 ≤ id ∧ id ≤ 4294967295) (h9 : 0 ≤ ref ∧ ref ≤ 18446744073709551615) (h10 : 0 ≤ org ∧ org ≤ 18446744073709551615) (h11 : 0 ≤ rec ∧ rec ≤ 18446744073709551615) (h12 : 0 ≤ xmt ∧ xmt ≤ 18446744073709551615) (hn : beh.length + 48 = n) (hb : Bs w 0 w.heap.size A (encH l v m st po pr rd rp id ref org rec xmt ++ beh)) (hm : n ≤ 1000000) :
    Calls Tryd.prog 38 #[.slice A n c] w fun e w' => ∃ A' c', e = .returned (.tuple #[ntp l v m st po pr rd rp id ref org rec xmt, .slice A' (n - 48) c', .int .i64 0]) ∧ Ow w' w.heap.size A' c' beh ∧ Below w.heap.size w w' := by
  obtain ⟨L, hL, f0, f1, f2, f3, f4, f5, f6, f7, f8, f9, f10, fd⟩ := encH_back l v m st po pr rd rp id ref org rec xmt beh hk h6 h7 h8 h9 h10 h11 h12
  obtain ⟨kl, kv, km, kst, kpo, kpr⟩ := nchk_ok hk
  rw [← hL] at hb
  have hLn : L.length = n := by rw [hL, List.length_append, encH_len]; omega
  have hE := decode_ok A n c L w hLn hb (by omega) (by omega) (l * 64 + v * 8 + m) f0 (by omega)
  rw [f1, f2, f3, f4, f5, f6, f7, f8, f9, f10, fd, show (l * 64 + v * 8 + m) / 64 = l by omega, show (l * 64 + v * 8 + m) / 8 % 8 = v by omega, show (l * 64 + v * 8 + m) % 8 = m by omega] at hE
  exact hE
end Go.Proofs.YtkccmmhofhaccaaDoor
namespace Go.Proofs.YtkccmmhofhaccaaDoor
open Go.ChangeShapes Go.WideShapes Go.ChangeAt Go.RowKit Go.Joins
set_option linter.unusedSimpArgs false
set_option linter.unusedVariables false
set_option maxRecDepth 100000
section
variable {H : Type} {enc : TypeId × Value → H}
/-- one field, from its cells -/
theorem ext_cells {W : World} {fuel : Nat} {cs : List Value} {x : DataW H × List MemPlace} (h : DataW.trod enc Tryd.prog W 0 (fun _ => true) true fuel 69 cs = some x) :
    ∃ (kd : Int) (A : Option Addr) (c : Nat) (dt : List Int), cs = [.int .i64 kd, .slice A dt.length c] ∧ Bs W 0 W.heap.size A dt ∧ dt.length ≤ c ∧ c ≤ 9223372036854775807 ∧ (A = none → dt.length = 0 ∧ c = 0) ∧ (0 < c → c ∈ x.1.weights Tryd.prog 69) := by
  obtain ⟨xs, n, _, hx, hl, hxl, hg⟩ := DataW.trod_struct Tryd.underlying69 h
  rw [cellsExt] at hl
  match cs, hl with
  | [c0, c1], _ =>
    match xs, hxl with
    | [y0, y1], _ =>
      have g0 := hg 0 _ rfl
      have g1 := hg 1 _ rfl
      simp [cellsI64, cellsSl8] at g0 g1
      obtain ⟨kd, e0, _, _⟩ := DataW.trod_int Tryd.underlying3 g0
      obtain ⟨A, n', c, l, e1, hn, hB, h1, h2, h3, h4⟩ := cell_bs (fun _ => rfl) g1
      subst hn e1
      simp at e0
      subst e0
      refine ⟨kd, A, c, l, rfl, hB, h1, h2, h3, fun hc => ?_⟩
      rw [hx]
      rw [DataW.weights, Tryd.underlying69]
      exact DataW.weights_mem_each (j := 1) (t := 32) (d := y1.1) rfl rfl c (h4 hc)
theorem open_exts {W : World} {base : Nat} {v : Value} {d : DataW H} {ps : List MemPlace} (hval : Value.okWide Tryd.prog W .any base 51 v) (h1 : DataW.Trod enc Tryd.prog W 0 (fun _ => true) true 51 v d ps) :
    ∃ (A : Option Addr) (n c : Nat) (L : List (Int × List Int)), v = .slice A n c ∧ L.length = n ∧ Xs W W.heap.size A L ∧ n ≤ c ∧ c ≤ 9223372036854775807 ∧ (A = none → n = 0 ∧ c = 0) ∧
      (∀ {ts : List TypeId} {ds : List (DataW H)}, (DataW.weightsEach Tryd.prog ts ds).all (· ≤ reachBytes) = true → ∀ {j : Nat}, ts[j]? = some 51 → ds[j]? = some d → ∀ k, k < n → (dtL L k).length ≤ 140737488351232) := by
  obtain ⟨a1, len, cap, rfl⟩ := okWide_slice Tryd.underlying51 hval
  obtain ⟨fuel, hf⟩ := h1
  rcases Go.Deep.open_slice Tryd.underlying51 hf with ⟨hcs, hx⟩ | ⟨a, len', cap', m, n, D, Pl, hcs, _, hl, hm, hmm, hx, hcell⟩
  · simp [Value.cells] at hcs
    obtain ⟨rfl, rfl, rfl⟩ := hcs
    exact ⟨none, 0, 0, [], rfl, rfl, Xs.nil, Nat.le_refl _, by omega, fun _ => ⟨rfl, rfl⟩, fun _ _ _ _ k hk => absurd hk (by omega)⟩
  · simp [Value.cells] at hcs
    obtain ⟨rfl, rfl, rfl⟩ := hcs
    simp only [if_true] at hmm
    subst hmm
    rw [cellsExt] at hcell
    simp only [Prod.mk.injEq] at hx
    obtain ⟨rfl, _⟩ := hx
    have each : ∀ i, i < m → ∃ q : (Int × List Int) × (Option Addr × Nat), W.cells? 0 (a.add (i * 2)) 2 = some [.int .i64 q.1.1, .slice q.2.1 q.1.2.length q.2.2] ∧ Bs W 0 W.heap.size q.2.1 q.1.2 ∧ q.1.2.length ≤ q.2.2 ∧ q.2.2 ≤ 9223372036854775807 ∧ (q.2.1 = none → q.1.2.length = 0 ∧ q.2.2 = 0) ∧ (0 < q.2.2 → q.2.2 ∈ (D i).weights Tryd.prog 69) := fun i hi => by
      obtain ⟨cs', h1, h2⟩ := hcell i hi
      obtain ⟨kd, A, c, dt, rfl, b1, b2, b3, b4, b5⟩ := ext_cells h2
      exact ⟨((kd, dt), (A, c)), h1, b1, b2, b3, b4, b5⟩
    obtain ⟨q, hq⟩ := Go.Deep.choose_lt each
    obtain ⟨L, hL⟩ : ∃ L, L = (List.range len).map fun i => (q i).1 := ⟨_, rfl⟩
    have hLl : L.length = len := by rw [hL]; simp
    have hat : ∀ k, k < len → L.getD k (0, []) = (q k).1 := fun k hk => by
      rw [hL, List.getD_eq_getElem?_getD, List.getElem?_map, List.getElem?_range hk]; rfl
    refine ⟨some a, len, m, L, rfl, hLl, fun hp => ?_, hl, by unfold maxLen at hm; exact hm, (fun h => by cases h), fun {ts ds} hsz {j} ht hd k hk => ?_⟩
    · rw [hLl] at hp
      obtain ⟨ab, ao, spot⟩ := a
      obtain ⟨_, _, hcl⟩ := World.cells?_some (hq 0 (by omega)).1
      have h0 := hcl 0 (by omega)
      have hspot : spot = none := by simpa [Addr.add] using World.cell?_spot h0
      subst hspot
      refine ⟨ab, ao, rfl, ?_, fun k hk => ?_⟩
      · have := World.block_lt_of_cell? W _ h0
        simpa [ofAdd] using this
      · rw [hLl] at hk
        obtain ⟨e1, b1, b2, b3, b4, _⟩ := hq k (by omega)
        obtain ⟨_, _, hcl⟩ := World.cells?_some e1
        have c0 := hcl 0 (by omega)
        have c1 := hcl 1 (by omega)
        rw [ofAdd, ofAdd] at c0 c1
        unfold kdL dtL
        rw [hat k hk]
        exact ⟨(q k).2.1, (q k).2.2, by simpa using c0, by simpa using c1, b1, b2, b3, b4⟩
    · unfold dtL
      rw [hat k hk]
      obtain ⟨_, _, b2, _, _, b5⟩ := hq k (by omega)
      by_cases hz : 0 < (q k).2.2
      · have hw := weights_elem (t := 51) (spare := (List.range (m - len)).map fun j => D (len + j)) Tryd.underlying51 (d := D k) (elems := (List.range len).map D) (List.mem_map.2 ⟨k, List.mem_range.2 hk, rfl⟩) (b5 hz)
        have h9 : (q k).2.2 ≤ reachBytes := by simpa using List.all_eq_true.1 hsz _ (DataW.weights_mem_each ht hd _ hw)
        unfold reachBytes at h9
        omega
      · omega
end
end Go.Proofs.YtkccmmhofhaccaaDoor
namespace Go.Proofs.YtkccmmhofhaccaaDoor
open Go.ChangeShapes Go.WideShapes Go.ChangeAt Go.RowKit Go.Joins
set_option linter.unusedSimpArgs false
set_option linter.unusedVariables false
set_option maxRecDepth 100000
theorem auth_len (id tag : Int) : (bytesB 4 id ++ bytesB 8 tag).length = 12 := by simp [bytesB_length]
theorem auth_id {id : Int} (tag : Int) (h0 : 0 ≤ id) (h1 : id ≤ 4294967295) : numB ((bytesB 4 id ++ bytesB 8 tag).take 4) = id := by
  rw [List.take_left' (bytesB_length _ _)]
  exact numB_bytesB' 4 id h0 (by have := (show (256 : Int) ^ 4 = 4294967296 from by decide); omega) (by omega)
theorem auth_tag (id : Int) {tag : Int} (h0 : 0 ≤ tag) (h1 : tag ≤ 18446744073709551615) : numB (((bytesB 4 id ++ bytesB 8 tag).drop 4).take 8) = tag := by
  rw [List.drop_left' (bytesB_length _ _), List.take_of_length_le (by simp [bytesB_length])]
  exact numB_bytesB' 8 tag h0 (by have := (show (256 : Int) ^ 8 = 18446744073709551616 from by decide); omega) (by omega)
theorem xs_byt {w : World} {hi : Nat} {A : Option Addr} {L : Flds} (h : Xs w hi A L) : ∀ t ∈ L, Byt t.2 := fun t ht => by
  obtain ⟨i, hi, rfl⟩ := List.mem_iff_getElem.1 ht
  obtain ⟨b, o, _, _, hx⟩ := h (by omega)
  obtain ⟨_, _, _, _, hB, _⟩ := hx i hi
  have := hB.byt
  unfold dtL at this
  rwa [List.getD_eq_getElem?_getD, List.getElem?_eq_getElem hi] at this
theorem xs_valid {w : World} {hi : Nat} {A : Option Addr} {L : Flds} (h : Xs w hi A L) (he : apxE L = 0) : AllV L ∧ L.length ≤ 16 := by
  obtain ⟨h1, h2⟩ := apx_parts he
  refine ⟨fun t ht => ⟨?_, xs_byt h t ht⟩, h1⟩
  obtain ⟨i, hi, rfl⟩ := List.mem_iff_getElem.1 ht
  have := h2 i hi
  unfold kdL dtL at this
  rwa [List.getD_eq_getElem?_getD, List.getElem?_eq_getElem hi] at this
theorem prs_eq {L : Flds} {a : List Int} (hv : AllV L ∧ L.length ≤ 16) (ha : a = [] ∨ a.length = 12) : prs (fldsB L ++ a).length [] (fldsB L ++ a) = (L, a, 0) := by
  obtain ⟨h1, h2, h3⟩ := prs_of hv.1 hv.2 ha
  exact Prod.ext h1 (Prod.ext h2 h3)
end Go.Proofs.YtkccmmhofhaccaaDoor
namespace Go.Proofs.YtkccmmhofhaccaaDoor
open Go.RowKit
set_option linter.unusedSimpArgs false
set_option linter.unusedVariables false
set_option maxRecDepth 100000
theorem alloc_cell {w : World} {b i : Nat} {v : Value} {o : Obj} (h : w.cell? ⟨b, i, none⟩ = some v) : (w.alloc o).cell? ⟨b, i, none⟩ = some v := (World.cell?_alloc_lt w o _ (World.block_lt_of_cell? w _ h)).trans h
theorem alloc_size {w : World} {N : Nat} {o : Obj} (h : N ≤ w.heap.size) : N ≤ (w.alloc o).heap.size := by simp; omega
theorem but_cell {g b i : Nat} {w w' : World} {v : Value} (hg : But g w w') (h : w.cell? ⟨b, i, none⟩ = some v) (hne : b ≠ g) : w'.cell? ⟨b, i, none⟩ = some v := (World.cell?_of_block (hg.block b (World.block_lt_of_cell? w _ h) (by simpa using hne))).trans h
theorem far_cell {w : World} {b i : Nat} {v u : Value} {p : Addr} (h : w.cell? ⟨b, i, none⟩ = some v) (hne : b ≠ p.block) : (w.setCell p u).cell? ⟨b, i, none⟩ = some v := by
  rw [World.cell?_setCell_other w p _ u (fun e => hne (by rw [e]))]; exact h
theorem far_size {w : World} {N : Nat} {p : Addr} {u : Value} (h : N ≤ w.heap.size) : N ≤ (w.setCell p u).heap.size := by simpa [World.setCell] using h
theorem Blk.far {w : World} {b : Nat} {t : TypeId} {cs : List Value} {p : Addr} {u : Value} (h : Blk w b t cs) (hne : b ≠ p.block) : Blk (w.setCell p u) b t cs := (Below.heap_setCell w p u b hne).trans h
theorem bcell' {g : Nat} {W w1 : World} (hb : But g W w1) : (∀ b o, b < W.heap.size → b ≠ g → w1.cell? ⟨b, o, none⟩ = W.cell? ⟨b, o, none⟩) ∧ (∀ b o, b < W.heap.size → b ≠ g → w1.frozen? ⟨b, o, none⟩ = W.frozen? ⟨b, o, none⟩) :=
  ⟨fun b o h hn => World.cell?_of_block (hb.block b h (by simpa using hn)), fun b o h hn => World.frozen?_of_block (hb.block b h (by simpa using hn))⟩
theorem realloc_cell {w : World} {o o' : Obj} {b i : Nat} {v : Value} (h : (w.alloc o).cell? ⟨b, i, none⟩ = some v) (hb : b < w.heap.size) : (w.alloc o').cell? ⟨b, i, none⟩ = some v := (World.cell?_alloc_lt w o' _ hb).trans ((World.cell?_alloc_lt w o _ hb).symm.trans h)
theorem realloc_size {w : World} {o o' : Obj} {N : Nat} (h : N ≤ (w.alloc o).heap.size) : N ≤ (w.alloc o').heap.size := by simpa using h
theorem realloc_below {w0 w : World} {o o' : Obj} {B : Nat} (h : Below B w0 (w.alloc o)) (hB : B ≤ w.heap.size) : Below B w0 (w.alloc o') :=
  ⟨h.os, h.tape, h.output, by have := h.size; simp at this ⊢; omega, fun k hk => (heap_alloc_old w o' (by omega)).trans ((heap_alloc_old w o (by omega)).symm.trans (h.block k hk))⟩
theorem blk_step {w w' : World} {b : Nat} {t : TypeId} {cs : List Value} (h : Blk w b t cs) (hb : Below w.heap.size w w') : Blk w' b t cs := h.below hb h.lt
theorem blk_first {w w' : World} {t : TypeId} {cs : List Value} (hb : Below (w.alloc (.cells cs.toArray t)).heap.size (w.alloc (.cells cs.toArray t)) w') : Blk w' w.heap.size t cs := (Blk.new w t cs.toArray cs rfl).below hb (by simp)
theorem blk_stepB {w w' : World} {b g : Nat} {t : TypeId} {cs : List Value} (h : Blk w b t cs) (hb : But g w w') (hne : b ≠ g) : Blk w' b t cs := h.but hb hne
theorem blk_firstB {w w' : World} {g : Nat} {t : TypeId} {cs : List Value} (hb : But g (w.alloc (.cells cs.toArray t)) w') (hne : w.heap.size ≠ g) : Blk w' w.heap.size t cs := (Blk.new w t cs.toArray cs rfl).but hb hne
theorem far_below {B : Nat} {w0 w : World} {p : Addr} {u : Value} (h : Below B w0 w) (hp : B ≤ p.block) : Below B w0 (w.setCell p u) := h.setCell hp u
theorem realloc_blk {w : World} {o o' : Obj} {b : Nat} {t : TypeId} {cs : List Value} (h : Blk (w.alloc o) b t cs) (hb : b < w.heap.size) : Blk (w.alloc o') b t cs := (heap_alloc_old w o' hb).trans ((heap_alloc_old w o hb).symm.trans h)
end Go.Proofs.YtkccmmhofhaccaaDoor
namespace Go.Proofs.YtkccmmhofhaccaaDoor
open Go.RowKit
set_option linter.unusedSimpArgs false
set_option linter.unusedVariables false
set_option maxRecDepth 100000
/-- bytes as a number, the least first -/
def wordF : List Int → Int
  | [] => 0
  | x :: r => x + 256 * wordF r
theorem wordF_app (l : List Int) (x : Int) : wordF (l ++ [x]) = wordF l + x * 256 ^ l.length := by
  induction l with
  | nil => simp [wordF]
  | cons y r ih =>
    simp only [List.cons_append, wordF, ih, List.length_cons, Int.pow_succ]
    rw [Int.mul_add, Int.add_assoc]
    congr 2
    rw [Int.mul_comm (256 ^ r.length) 256, ← Int.mul_assoc, ← Int.mul_assoc, Int.mul_comm 256 x]
theorem wordF_rng {l : List Int} (h : Byt l) : 0 ≤ wordF l ∧ wordF l < 256 ^ l.length := by
  induction l with
  | nil => simp [wordF]
  | cons x r ih =>
    have h0 := h x (by simp)
    obtain ⟨h1, h2⟩ := ih fun y hy => h y (by simp [hy])
    simp only [wordF, List.length_cons, Int.pow_succ]
    omega
/-- behind q words of eight bytes -/
def hsF (h0 : Int) (l : List Int) : Nat → Int
  | 0 => h0
  | q + 1 => mixF (hsF h0 l q) (wordF ((l.drop (8 * q)).take 8))
def tagF (k0 k1 : Int) (l : List Int) : Int := mixF (hsF (mixF k0 k1) l ((l.length + 7) / 8)) l.length
theorem hsF_u64 {h0 : Int} (h : U64 h0) (l : List Int) (q : Nat) : U64 (hsF h0 l q) := by
  cases q with
  | zero => exact h
  | succ q => exact mixF_u64 _ _
theorem word_take {l : List Int} (k : Nat) (hk : k < l.length) : wordF (l.take (k + 1)) = wordF (l.take k) + atB l k * 256 ^ k := by
  rw [take_succ' l k hk, wordF_app, List.length_take, Nat.min_eq_left (by omega)]
theorem pow8_le {k : Nat} (h : k ≤ 8) : (256 : Int) ^ k ≤ 18446744073709551616 := by
  have : k = 0 ∨ k = 1 ∨ k = 2 ∨ k = 3 ∨ k = 4 ∨ k = 5 ∨ k = 6 ∨ k = 7 ∨ k = 8 := by omega
  rcases this with rfl | rfl | rfl | rfl | rfl | rfl | rfl | rfl | rfl <;> decide
theorem word_u64 {l : List Int} (h : Byt l) (hl : l.length ≤ 8) : U64 (wordF l) := by
  obtain ⟨h0, h1⟩ := wordF_rng h
  have := pow8_le hl
  unfold U64
  omega
abbrev one64 (x : Int) : List Value := [.int .u64 x]
abbrev oneI (x : Int) : List Value := [.int .i64 x]
theorem sizeU64' : (Tryd.prog.info? 22).map (·.size) = some 1 := by kernel_rfl
theorem sizeI64' : (Tryd.prog.info? 3).map (·.size) = some 1 := by kernel_rfl
set_option maxHeartbeats 4000000 in
theorem mix1_no (bs bh bw : Nat) (w : World) (hS : Blk w bs 3 (oneI 0)) :
    Calls Tryd.prog 44 #[.pointer (some ⟨bs, 0, none⟩), .pointer (some ⟨bh, 0, none⟩), .pointer (some ⟨bw, 0, none⟩)] w fun e w' => e = .returned (.tuple #[]) ∧ w = w' := by
  go_enter Tryd.func44, Tryd.ntmps44
  go_wp2_with (first | (refine wpl_loadf (by rfl) 3 _ (by rfl) bs 0 (by rfl) _ _ hS _ rfl _ Tryd.underlying3 rfl ?_))
  exact bodyPost_end (v := .tuple #[]) (by simp [results, Tryd.results44]) rfl ⟨rfl, rfl⟩
set_option maxHeartbeats 4000000 in
theorem mix1_yes (bs bh bw : Nat) (s h wd : Int) (w : World) (hs : 0 < s) (hh : U64 h) (hwd : U64 wd) (hS : Blk w bs 3 (oneI s)) (hH : Blk w bh 22 (one64 h)) (hW : Blk w bw 22 (one64 wd)) (hR : Rnd w) (h1 : bs ≠ bh) (h2 : bs ≠ bw) (h3 : bh ≠ bw) :
    Calls Tryd.prog 44 #[.pointer (some ⟨bs, 0, none⟩), .pointer (some ⟨bh, 0, none⟩), .pointer (some ⟨bw, 0, none⟩)] w fun e w' => e = .returned (.tuple #[]) ∧ Blk w' bs 3 (oneI 0) ∧ Blk w' bh 22 (one64 (mixF h wd)) ∧ Blk w' bw 22 (one64 0) ∧ Kp w [bs, bh, bw] w' := by
  have d0 : decide (0 < s) = true := decide_eq_true hs
  have l1 := hS.lt
  have l2 := hH.lt
  have l3 := hW.lt
  have hM := mix_any h wd w hh hwd hR
  clear hs hh hwd
  go_enter Tryd.func44, Tryd.ntmps44
  go_wp2_with (first
    | (refine wpl_loadf (by rfl) 3 _ (by rfl) bs 0 (by rfl) _ _ hS _ rfl _ Tryd.underlying3 rfl ?_)
    | (refine wpl_loadf (by rfl) 22 _ (by rfl) bh 0 (by rfl) _ _ hH _ rfl _ Tryd.underlying22 rfl ?_)
    | (refine wpl_loadf (by rfl) 22 _ (by rfl) bw 0 (by rfl) _ _ hW _ rfl _ Tryd.underlying22 rfl ?_)
    | (go_at_call 33; ((with_reducible refine hM.mono ?_); rintro e w1 ⟨rfl, b1⟩; (have S1 := hS.below b1 l1); (have H1 := hH.below b1 l2); (have W1 := hW.below b1 l3)))
    | ((refine wpl_storeg (by rfl) 22 _ _ (by rfl) bh 0 (by rfl) (.int .u64 (mixF h wd)) (by rfl) (by rfl) (by simp [Value.oneCell']) _ _ (one64 (mixF h wd)) H1 (by simp) sizeU64' (by rfl) ?_; intro w2 H2 s2 g2); (have S2 := S1.but g2 h1); (have W2 := W1.but g2 (Ne.symm h3)))
    | ((refine wpl_storeg (by rfl) 22 _ _ (by rfl) bw 0 (by rfl) (.int .u64 0) (by rfl) (by rfl) (by simp [Value.oneCell']) _ _ (one64 0) W2 (by simp) sizeU64' (by rfl) ?_; intro w3 W3 s3 g3); (have S3 := S2.but g3 h2); (have H3 := H2.but g3 h3))
    | ((refine wpl_storeg (by rfl) 3 _ _ (by rfl) bs 0 (by rfl) (.int .i64 0) (by rfl) (by rfl) (by simp [Value.oneCell']) _ _ (oneI 0) S3 (by simp) sizeI64' (by rfl) ?_; intro w4 S4 s4 g4)))
  exact bodyPost_end (v := .tuple #[]) (by simp [results, Tryd.results44]) rfl ⟨rfl, S4, H3.but g4 (Ne.symm h1), W3.but g4 (Ne.symm h2), (((Kp.of_below b1).but g2 (.inr (by simp))).but g3 (.inr (by simp))).but g4 (.inr (by simp))⟩
/-- eight bytes at most: the next one goes above -/
theorem or_word {wd c : Int} (s : Nat) (hs : s < 8) (h0 : 0 ≤ wd) (h1 : wd < 256 ^ s) (c0 : 0 ≤ c) (c1 : c ≤ 255) : bits .or .u64 wd (c * 256 ^ s) = wd + c * 256 ^ s := by
  obtain ⟨a, rfl⟩ : ∃ a : Nat, wd = a := ⟨wd.toNat, by omega⟩
  obtain ⟨b, rfl⟩ : ∃ b : Nat, c = b := ⟨c.toNat, by omega⟩
  have e : ((b : Int) * 256 ^ s) = ((b * 256 ^ s : Nat) : Int) := by simp
  have ha : a < 256 ^ s := by exact_mod_cast h1
  have hb : b * 256 ^ s ≤ 255 * 256 ^ s := Nat.mul_le_mul_right _ (by omega)
  have hp : 256 ^ s * 256 ≤ 18446744073709551616 := by
    have : s = 0 ∨ s = 1 ∨ s = 2 ∨ s = 3 ∨ s = 4 ∨ s = 5 ∨ s = 6 ∨ s = 7 := by omega
    rcases this with rfl | rfl | rfl | rfl | rfl | rfl | rfl | rfl <;> decide
  rw [e, Go.u64_or _ _ (by omega) (by omega) (by omega) (by omega)]
  have h3 := Nat.two_pow_add_eq_or_of_lt (b := a) (i := 8 * s) (by rw [Nat.pow_mul]; exact ha) b
  rw [Nat.pow_mul, show (2 : Nat) ^ 8 = 256 from rfl] at h3
  simp only [Int.toNat_natCast]
  rw [Nat.or_comm, Nat.mul_comm b, ← h3]
  omega
theorem pw8 {c : Int} (s : Nat) (hs : s < 8) (c0 : 0 ≤ c) (c1 : c ≤ 255) : U64 (c * 256 ^ s) := by
  have : s = 0 ∨ s = 1 ∨ s = 2 ∨ s = 3 ∨ s = 4 ∨ s = 5 ∨ s = 6 ∨ s = 7 := by omega
  unfold U64
  rcases this with rfl | rfl | rfl | rfl | rfl | rfl | rfl | rfl <;> omega
theorem shl8 {c : Int} (s : Nat) (hs : s < 8) (c0 : 0 ≤ c) (c1 : c ≤ 255) : IntKind.u64.wrap (c * 2 ^ (8 * s)) = c * 256 ^ s := by
  obtain ⟨h0, h1⟩ := pw8 s hs c0 c1
  rw [Int.pow_mul, IntKind.wrap_u64]
  show (c * 256 ^ s) % 18446744073709551616 = _
  omega
set_option maxHeartbeats 4000000 in
theorem step2_lt (bs bw bf : Nat) (s : Nat) (c wd : Int) (fv : Value) (w : World) (hs : s < 7) (c0 : 0 ≤ c) (c1 : c ≤ 255) (h0 : 0 ≤ wd) (h1 : wd < 256 ^ s) (hS : Blk w bs 3 (oneI s)) (hW : Blk w bw 22 (one64 wd)) (hsw : bs ≠ bw) :
    Calls Tryd.prog 45 #[.int .u8 c, .pointer (some ⟨bw, 0, none⟩), .pointer (some ⟨bs, 0, none⟩), .pointer (some ⟨bf, 0, none⟩)] w fun e w' => e = .returned (.tuple #[]) ∧ Blk w' bs 3 (oneI ((s + 1 : Nat) : Int)) ∧ Blk w' bw 22 (one64 (wd + c * 256 ^ s)) ∧ Kp w [bs, bw] w' := by
  have e1 := or_word s (by omega) h0 h1 c0 c1
  have e2 := shl8 s (by omega) c0 c1
  have q1 := hS.drew.cell (i := 0) rfl
  have q2 := hW.drew.cell (i := 0) rfl
  have q3 := hW.drew.frozen 0
  go_enter Tryd.func45, Tryd.ntmps45
  have hs0 : (0 : Int) ≤ s := by omega
  have hs1 : (s : Int) < 7 := by omega
  go_wp2
  go_region
  have W1 : Blk (w.setCell ⟨bw, 0, none⟩ (.int .u64 (wd + c * 256 ^ s))).drew bw 22 (one64 (wd + c * 256 ^ s)) := (hW.set 0 _).drew
  have S1 : Blk (w.setCell ⟨bw, 0, none⟩ (.int .u64 (wd + c * 256 ^ s))).drew bs 3 (oneI s) := (hS.far hsw).drew
  have K1 : Kp w [bs, bw] (w.setCell ⟨bw, 0, none⟩ (.int .u64 (wd + c * 256 ^ s))).drew := ((Kp.refl w _).set (.inr (by simp))).drew
  generalize (w.setCell ⟨bw, 0, none⟩ (.int .u64 (wd + c * 256 ^ s))).drew = w1 at W1 S1 K1 ⊢
  have d8 : ((s : Int) + 1 == 8) = false := by simp; omega
  clear q1 q2 q3 e1 e2 hS hW
  go_wp2_with (first
    | (refine wpl_loadf (by rfl) 3 _ (by rfl) bs 0 (by rfl) _ _ S1 _ rfl _ Tryd.underlying3 rfl ?_)
    | ((refine wpl_storeg (by rfl) 3 _ _ (by rfl) bs 0 (by rfl) (.int .i64 ((s : Int) + 1)) (by rfl) (by rfl) (by simp [Value.oneCell']) _ _ (oneI ((s : Int) + 1)) S1 (by simp) sizeI64' (by rfl) ?_; intro w2 S2 s2 g2); (have W2 := W1.but g2 (Ne.symm hsw)))
    | (refine wpl_loadf (by rfl) 3 _ (by rfl) bs 0 (by rfl) _ _ S2 _ rfl _ Tryd.underlying3 rfl ?_))
  exact bodyPost_end (v := .tuple #[]) (by simp [results, Tryd.results45]) rfl ⟨rfl, by simpa using S2, W2, K1.but g2 (.inr (by simp))⟩
theorem kp_mono {x y : World} {G G' : List Nat} (h : Kp x G y) (hs : ∀ b, b ∈ G → b ∈ G') : Kp x G' y := ⟨h.os, h.tape, h.output, h.size, fun b hb hn => h.block b hb fun hg => hn (hs b hg)⟩
set_option maxHeartbeats 4000000 in
theorem step2_eq (bs bw bh bf : Nat) (c wd h : Int) (w : World) (c0 : 0 ≤ c) (c1 : c ≤ 255) (h0 : 0 ≤ wd) (h1 : wd < 72057594037927936) (hh : U64 h) (hS : Blk w bs 3 (oneI 7)) (hW : Blk w bw 22 (one64 wd)) (hH : Blk w bh 22 (one64 h)) (hF : Blk w bf 1 [.func (.func 44) #[] #[.pointer (some ⟨bs, 0, none⟩), .pointer (some ⟨bh, 0, none⟩), .pointer (some ⟨bw, 0, none⟩)]]) (hR : Rnd w)
    (hsw : bs ≠ bw) (hsh : bs ≠ bh) (hhw : bh ≠ bw) (hfw : bf ≠ bw) (hfs : bf ≠ bs) (hz : 0 ≠ bw ∧ 0 ≠ bs) :
    Calls Tryd.prog 45 #[.int .u8 c, .pointer (some ⟨bw, 0, none⟩), .pointer (some ⟨bs, 0, none⟩), .pointer (some ⟨bf, 0, none⟩)] w fun e w' => e = .returned (.tuple #[]) ∧ Blk w' bs 3 (oneI 0) ∧ Blk w' bw 22 (one64 0) ∧ Blk w' bh 22 (one64 (mixF h (wd + c * 72057594037927936))) ∧ Kp w [bs, bh, bw] w' := by
  have e1 : bits .or .u64 wd (c * 72057594037927936) = wd + c * 72057594037927936 := or_word 7 (by omega) h0 h1 c0 c1
  have hu : U64 (wd + c * 72057594037927936) := by unfold U64; omega
  have q1 := hS.drew.cell (i := 0) rfl
  have q2 := hW.drew.cell (i := 0) rfl
  have q3 := hW.drew.frozen 0
  generalize hX : wd + c * 72057594037927936 = X at e1 hu ⊢
  go_enter Tryd.func45, Tryd.ntmps45
  go_wp2
  go_region
  have W1 : Blk (w.setCell ⟨bw, 0, none⟩ (.int .u64 X)).drew bw 22 (one64 X) := (hW.set 0 _).drew
  have S1 : Blk (w.setCell ⟨bw, 0, none⟩ (.int .u64 X)).drew bs 3 (oneI 7) := (hS.far hsw).drew
  have H1 : Blk (w.setCell ⟨bw, 0, none⟩ (.int .u64 X)).drew bh 22 (one64 h) := (hH.far hhw).drew
  have F1 : Blk (w.setCell ⟨bw, 0, none⟩ (.int .u64 X)).drew bf 1 [.func (.func 44) #[] #[.pointer (some ⟨bs, 0, none⟩), .pointer (some ⟨bh, 0, none⟩), .pointer (some ⟨bw, 0, none⟩)]] := (hF.far hfw).drew
  have K1 : Kp w [bs, bh, bw] (w.setCell ⟨bw, 0, none⟩ (.int .u64 X)).drew := ((Kp.refl w _).set (.inr (by simp))).drew
  have R1 : Rnd (w.setCell ⟨bw, 0, none⟩ (.int .u64 X)).drew := by obtain ⟨tR, hR'⟩ := hR; exact ⟨tR, Blk.drew (Blk.far hR' (show 0 ≠ _ from hz.1))⟩
  generalize (w.setCell ⟨bw, 0, none⟩ (.int .u64 X)).drew = w1 at W1 S1 H1 F1 K1 R1 ⊢
  clear q1 q2 q3 e1 hS hW hH hF hR hX
  go_wp2_with (first
    | (refine wpl_loadf (by rfl) 3 _ (by rfl) bs 0 (by rfl) _ _ S1 _ rfl _ Tryd.underlying3 rfl ?_)
    | ((refine wpl_storeg (by rfl) 3 _ _ (by rfl) bs 0 (by rfl) (.int .i64 8) (by rfl) (by rfl) (by simp [Value.oneCell']) _ _ (oneI 8) S1 (by simp) sizeI64' (by rfl) ?_; intro w2 S2 s2 g2); (have W2 := W1.but g2 (Ne.symm hsw)); (have H2 := H1.but g2 (Ne.symm hsh)); (have F2 := F1.but g2 hfs); (have R2 := R1.but g2 hz.2); (have hM := mix1_yes bs bh bw 8 h X w2 (by omega) hh hu S2 H2 W2 R2 hsh hsw hhw))
    | (refine wpl_loadf (by rfl) 3 _ (by rfl) bs 0 (by rfl) _ _ S2 _ rfl _ Tryd.underlying3 rfl ?_)
    | (refine wpl_loadf (by rfl) 1 _ (by rfl) bf 0 (by rfl) _ _ F2 _ rfl _ Tryd.underlying1 rfl ?_)
    | (go_at_call 44; ((with_reducible refine hM.mono ?_); rintro e w3 ⟨rfl, S3, H3, W3, K3⟩)))
  exact bodyPost_end (v := .tuple #[]) (by simp [results, Tryd.results45]) rfl ⟨rfl, S3, W3, H3, (K1.but g2 (.inr (by simp))).trans K3⟩
end Go.Proofs.YtkccmmhofhaccaaDoor
namespace Go.Proofs.YtkccmmhofhaccaaDoor
open Go.RowKit
set_option linter.unusedSimpArgs false
set_option linter.unusedVariables false
set_option maxRecDepth 100000
theorem zeroU64' : (Tryd.prog.info? 22).map (·.zero) = some (some (.int .u64 0)) := by kernel_rfl
theorem zeroI64' : (Tryd.prog.info? 3).map (·.zero) = some (some (.int .i64 0)) := by kernel_rfl
abbrev keyL (k0 k1 : Int) : List Value := [.int .u64 k0, .int .u64 k1]
abbrev keyV (k0 k1 : Int) : Value := .agg #[.int .u64 k0, .int .u64 k1]
theorem sizeKey : (Tryd.prog.info? 24).map (·.size) = some 2 := by kernel_rfl
theorem zeroKey : (Tryd.prog.info? 24).map (·.zero) = some (some (keyV 0 0)) := by kernel_rfl
/-- where the bytes have come to -/
theorem word_next {l : List Int} (q s : Nat) (h : 8 * q + s < l.length) : wordF ((l.drop (8 * q)).take s) + atB l (8 * q + s) * 256 ^ s = wordF ((l.drop (8 * q)).take (s + 1)) := by
  rw [word_take s (by rw [List.length_drop]; omega)]
  congr 2
  unfold atB
  rw [List.getD_eq_getElem?_getD, List.getD_eq_getElem?_getD, List.getElem?_drop]
theorem word_rng {l : List Int} (hb : Byt l) (q s : Nat) (hs : s ≤ 8) : 0 ≤ wordF ((l.drop (8 * q)).take s) ∧ wordF ((l.drop (8 * q)).take s) < 256 ^ s := by
  obtain ⟨h0, h1⟩ := wordF_rng ((hb.drop (8 * q)).take s)
  have hl : ((l.drop (8 * q)).take s).length ≤ s := List.length_take_le _ _
  obtain ⟨d, hd⟩ : ∃ d, s = ((l.drop (8 * q)).take s).length + d := ⟨s - ((l.drop (8 * q)).take s).length, by omega⟩
  refine ⟨h0, Int.lt_of_lt_of_le h1 ?_⟩
  generalize ((l.drop (8 * q)).take s).length = e at hd
  subst hd
  rw [Int.pow_add]
  have a : (0 : Int) < 256 ^ e := Int.pow_pos (by omega)
  have b : (0 : Int) < 256 ^ d := Int.pow_pos (by omega)
  have c : (256 : Int) ^ e * 1 ≤ 256 ^ e * 256 ^ d := Int.mul_le_mul_of_nonneg_left (by omega) (by omega)
  omega
theorem tag_even {k0 k1 : Int} {l : List Int} {q : Nat} (h : l.length = 8 * q) : tagF k0 k1 l = mixF (hsF (mixF k0 k1) l q) l.length := by
  unfold tagF
  rw [show (l.length + 7) / 8 = q by omega]
theorem tag_odd {k0 k1 : Int} {l : List Int} {q s : Nat} (h : l.length = 8 * q + s) (h0 : 0 < s) (h8 : s < 8) : tagF k0 k1 l = mixF (mixF (hsF (mixF k0 k1) l q) (wordF ((l.drop (8 * q)).take s))) l.length := by
  unfold tagF
  rw [show (l.length + 7) / 8 = q + 1 by omega]
  show mixF (mixF _ (wordF ((l.drop (8 * q)).take 8))) _ = _
  rw [List.take_of_length_le (by rw [List.length_drop]; omega), List.take_of_length_le (by rw [List.length_drop]; omega)]
theorem word_full {l : List Int} (q s : Nat) (hs : s ≤ 8) (h : s = 8 ∨ 8 * q + s = l.length) : wordF ((l.drop (8 * q)).take s) = wordF ((l.drop (8 * q)).take 8) := by
  rcases h with rfl | h
  · rfl
  · rw [List.take_of_length_le (by rw [List.length_drop]; omega), List.take_of_length_le (by rw [List.length_drop]; omega)]
theorem zeroFun : (Tryd.prog.info? 1).map (·.zero) = some (some .nilFunc) := by kernel_rfl
theorem sizeFun : (Tryd.prog.info? 1).map (·.size) = some 1 := by kernel_rfl
abbrev mixV (bs bh bw : Nat) : Value := .func (.func 44) #[] #[.pointer (some ⟨bs, 0, none⟩), .pointer (some ⟨bh, 0, none⟩), .pointer (some ⟨bw, 0, none⟩)]
abbrev stepV (bw bs bf : Nat) : Value := .func (.func 45) #[] #[.pointer (some ⟨bw, 0, none⟩), .pointer (some ⟨bs, 0, none⟩), .pointer (some ⟨bf, 0, none⟩)]
/-- the variables of Tag behind q words and s bytes -/
structure TagI (w0 : World) (bs bh bw bf : Nat) (H0 : Int) (l : List Int) (q s : Nat) (wr : World) : Prop where
  S : Blk wr bs 3 (oneI s)
  H : Blk wr bh 22 (one64 (hsF H0 l q))
  W : Blk wr bw 22 (one64 (wordF ((l.drop (8 * q)).take s)))
  F : Blk wr bf 1 [mixV bs bh bw]
  R : Rnd wr
  B : Below w0.heap.size w0 wr
set_option maxHeartbeats 16000000 in
theorem tag_any (k0 k1 : Int) (A : Option Addr) (n c : Nat) (l : List Int) (w : World) (hk0 : U64 k0) (hk1 : U64 k1) (hn : l.length = n) (h : Bs w 0 w.heap.size A l) (hm : n ≤ 1000000) (hnc : n ≤ c) (hcc : c ≤ 9223372036854775807) (hR : Rnd w) :
    Calls Tryd.prog 34 #[keyV k0 k1, .slice A n c] w fun e w' => e = .returned (.int .u64 (tagF k0 k1 l)) ∧ Below w.heap.size w w' := by
  have hw0 := hR.lt
  have Hn := Lib.hid hn
  have hby := h.byt
  have hM := fun W hr => mix_any k0 k1 W hk0 hk1 hr
  clear hn
  go_enter Tryd.func34, Tryd.ntmps34
  go_wp2_with (first
    | ((refine wpl_box (by rfl) 24 _ (by rfl) _ (keyL k0 k1) (by rfl) rfl ?_; intro w1 J1 s1 b1); (have R1 := hR.below b1 hw0))
    | (refine wpl_loadf (by rfl) 22 _ (by rfl) w.heap.size 0 (by rfl) _ _ J1 _ rfl _ Tryd.underlying22 rfl ?_)
    | (refine wpl_loadf (by rfl) 22 _ (by rfl) w.heap.size 1 (by rfl) _ _ J1 _ rfl _ Tryd.underlying22 rfl ?_)
    | (go_at_call 33; ((with_reducible refine (hM _ R1).mono ?_); rintro e w2 ⟨rfl, b2⟩; (have R2 := R1.below b2 R1.lt); (have z2 := b2.size)))
    | ((with_reducible show wpList _ _ _ (⟨some 5, _, _, _, _, _⟩ :: _) _ _); refine wpl_alloc (by rfl) 22 (by rfl) (.int .u64 0) (one64 0) zeroU64' rfl ?_; intro w3 H3 s3 b3; (have R3 := R2.below b3 R2.lt))
    | ((refine wpl_storeg (by rfl) 22 _ _ (by rfl) w2.heap.size 0 (by rfl) (.int .u64 (mixF k0 k1)) (by rfl) (by rfl) (by simp [Value.oneCell']) _ _ (one64 (mixF k0 k1)) H3 (by simp) sizeU64' (by rfl) ?_; intro w4 H4 s4 g4); (have R4 := R3.but g4 (by omega)))
    | ((with_reducible show wpList _ _ _ (⟨some 6, _, _, _, _, _⟩ :: _) _ _); refine wpl_alloc (by rfl) 22 (by rfl) (.int .u64 0) (one64 0) zeroU64' rfl ?_; intro w5 W5 s5 b5; (have H5 := H4.below b5 (by omega)))
    | ((with_reducible show wpList _ _ _ (⟨some 7, _, _, _, _, _⟩ :: _) _ _); refine wpl_alloc (by rfl) 3 (by rfl) (.int .i64 0) (oneI 0) zeroI64' rfl ?_; intro w6 S6 s6 b6; (have H6 := H5.below b6 (by omega)); (have W6 := W5.below b6 (by omega)))
    | ((refine wpl_storeg (by rfl) 22 _ _ (by rfl) w4.heap.size 0 (by rfl) (.int .u64 0) (by rfl) (by rfl) (by simp [Value.oneCell']) _ _ (one64 0) W6 (by simp) sizeU64' (by rfl) ?_; intro w7 W7 s7 g7); (have H7 := H6.but g7 (by omega)); (have S7 := S6.but g7 (by omega)))
    | ((refine wpl_storeg (by rfl) 3 _ _ (by rfl) w5.heap.size 0 (by rfl) (.int .i64 0) (by rfl) (by rfl) (by simp [Value.oneCell']) _ _ (oneI 0) S7 (by simp) sizeI64' (by rfl) ?_; intro w8 S8 s8 g8); (have H8 := H7.but g8 (by omega)); (have W8 := W7.but g8 (by omega)))
    | ((with_reducible show wpList _ _ _ (⟨some 8, _, _, _, _, _⟩ :: _) _ _); refine wpl_alloc (by rfl) 1 (by rfl) .nilFunc [.nilFunc] zeroFun rfl ?_; intro w9 F9 s9 b9; (have H9 := H8.below b9 (by omega)); (have W9 := W8.below b9 (by omega)); (have S9 := S8.below b9 (by omega)))
    | ((refine wpl_storeg (by rfl) 1 _ _ (by rfl) w8.heap.size 0 (by rfl) (mixV w5.heap.size w2.heap.size w4.heap.size) (by rfl) (by rfl) (by simp [Value.oneCell']) _ _ ([mixV w5.heap.size w2.heap.size w4.heap.size]) F9 (by simp) sizeFun (by rfl) ?_; intro w10 F10 s10 g10)))
  have hI0 : TagI w w5.heap.size w2.heap.size w4.heap.size w8.heap.size (mixF k0 k1) l 0 0 w10 := ⟨S9.but g10 (by omega), H9.but g10 (by omega), W9.but g10 (by omega), F10, (((((R4.below b5 R4.lt).below b6 (by omega)).but g7 (by omega)).but g8 (by omega)).below b9 (by omega)).but g10 (by omega), ((((((((b1.trans (b2.mono (by omega))).trans (b3.mono (by omega))).trans (g4.below (by omega) (by omega))).trans (b5.mono (by omega))).trans (b6.mono (by omega))).trans (g7.below (by omega) (by omega))).trans (g8.below (by omega) (by omega))).trans (b9.mono (by omega))).trans (g10.below (by omega) (by omega))⟩
  have hn1 : w5.heap.size ≠ w4.heap.size := by omega
  have hn2 : w5.heap.size ≠ w2.heap.size := by omega
  have hn3 : w2.heap.size ≠ w4.heap.size := by omega
  have hn4 : w8.heap.size ≠ w4.heap.size := by omega
  have hn5 : w8.heap.size ≠ w5.heap.size := by omega
  have hn6 : 0 ≠ w4.heap.size ∧ 0 ≠ w5.heap.size := by omega
  have hn7 : w8.heap.size ≠ w2.heap.size := by omega
  have hn8 : 0 ≠ w2.heap.size := by omega
  have hlo : w.heap.size ≤ w5.heap.size ∧ w.heap.size ≤ w2.heap.size ∧ w.heap.size ≤ w4.heap.size := by omega
  generalize w5.heap.size = bs at hI0 hn1 hn2 hn5 hn6 hlo ⊢
  generalize w4.heap.size = bw at hI0 hn1 hn3 hn4 hn6 hlo ⊢
  generalize w2.heap.size = bh at hI0 hn2 hn3 hn7 hn8 hlo ⊢
  generalize w8.heap.size = bf at hI0 hn4 hn5 hn7 ⊢
  have HH := Lib.hid (mixF_u64 k0 k1)
  generalize hH0 : mixF k0 k1 = H0 at hI0 HH ⊢
  have HH0 := Lib.hid hH0
  clear hH0 J1 R1 R2 R3 H3 H4 R4 W5 H5 S6 H6 W6 W7 H7 S7 S8 H8 W8 F9 H9 W9 S9 F10 b1 b2 b3 g4 b5 b6 g7 g8 b9 g10 s1 s3 s4 s5 s6 s7 s8 s9 s10 z2 hM
  go_loopw [21] (fun i wr => ∃ q s : Nat, s < 8 ∧ 8 * q + s ≤ n ∧ i = .int .i64 ((8 * q + s : Nat) : Int) ∧ TagI w bs bh bw bf H0 l q s wr) (fun i _ => n - (intOf i).toNat)
  case atStart => exact ⟨0, 0, by omega, by omega, rfl, hI0⟩
  case round =>
    obtain ⟨q, s, hs8, hsn, rfl, hI⟩ := hrel
    clear hI0
    obtain ⟨I, hIe⟩ : ∃ I, 8 * q + s = I := ⟨_, rfl⟩
    have HI := Lib.hid hIe
    rw [hIe] at hsn ⊢
    clear hIe
    have hh := hsF_u64 HH.out l q
    have hS := hI.S
    have hW := hI.W
    have hH := hI.H
    have hF := hI.F
    have hRr := hI.R
    by_cases hlt : I < n
    · obtain ⟨b, o, rfl, _, hbw, hcell⟩ := (h.below hI.B (Nat.le_refl _)).at (by rw [Hn.out]; omega)
      have ck := hcell I (by rw [Hn.out]; omega)
      have hc := hby.at I
      obtain ⟨u0, u1⟩ := word_rng hby q s (by omega)
      have hnx := word_next (l := l) q s (by rw [Hn.out, HI.out]; exact hlt)
      rw [show 8 * q + s = I from HI.out] at hnx
      obtain ⟨C, hC⟩ : ∃ C, atB l I = C := ⟨_, rfl⟩
      rw [hC] at ck hc hnx
      obtain ⟨c0, c1⟩ := hc
      have hq0 : (0 : Int) ≤ I := by omega
      have hq1 : (I : Int) < n := by omega
      clear hcell hC
      by_cases hs7 : s = 7
      · subst hs7
        have hSt := step2_eq bs bw bh bf C _ _ wr c0 c1 u0 u1 hh hS hW hH hF hRr hn1 hn2 hn3 hn4 hn5 hn6
        have hnx2 : wordF ((l.drop (8 * q)).take 7) + C * 72057594037927936 = wordF ((l.drop (8 * q)).take 8) := hnx
        rw [hnx2] at hSt
        clear hS hW hH hF hRr hnx hnx2 u0 u1
        go_wp2_with (first | (go_at_call 45; ((with_reducible refine hSt.mono ?_); rintro e w2 ⟨rfl, S2, W2, H2, K2⟩)))
        exact ⟨⟨q + 1, 0, by omega, by have := HI.out; omega, by have := HI.out; congr 1; omega, ⟨S2, H2, by simpa [wordF] using W2, K2.blk hI.F (by simp; omega), K2.rnd hI.R (by simp; omega), K2.toBelow hI.B hI.B.size (by simp; omega)⟩⟩, by simp [intOf]; omega⟩
      · have hSt := step2_lt bs bw bf s C _ (mixV bs bh bw) wr (by omega) c0 c1 u0 u1 hS hW hn1
        rw [hnx] at hSt
        clear hS hW hH hF hRr hnx u0 u1
        go_wp2_with (first | (go_at_call 45; ((with_reducible refine hSt.mono ?_); rintro e w2 ⟨rfl, S2, W2, K2⟩)))
        exact ⟨⟨q, s + 1, by omega, by have := HI.out; omega, by have := HI.out; congr 1; omega, ⟨S2, K2.blk hI.H (by simp; omega), W2, K2.blk hI.F (by simp; omega), K2.rnd hI.R (by simp; omega), K2.toBelow hI.B hI.B.size (by simp; omega)⟩⟩, by simp [intOf]; omega⟩
    · obtain rfl : n = I := by omega
      by_cases hs0 : s = 0
      · subst hs0
        have hM1 := mix1_no bs bh bw wr hS
        have hT : Hid (tagF k0 k1 l = mixF (hsF H0 l q) n) := by
          show tagF k0 k1 l = _
          rw [tag_even (q := q) (by rw [Hn.out]; exact HI.out.symm), HH0.out, Hn.out]
        have hM := mix_any (hsF H0 l q) n wr hh ⟨by omega, by omega⟩ hRr
        go_wp2_with (first
          | (refine wpl_loadf (by rfl) 1 _ (by rfl) bf 0 (by rfl) _ _ hF _ rfl _ Tryd.underlying1 rfl ?_)
          | (go_at_call 44; ((with_reducible refine hM1.mono ?_); rintro e w' ⟨rfl, rfl⟩))
          | (refine wpl_loadf (by rfl) 22 _ (by rfl) bh 0 (by rfl) _ _ hH _ rfl _ Tryd.underlying22 rfl ?_)
          | (go_at_call 33; ((with_reducible refine hM.mono ?_); rintro e w2 ⟨rfl, b2⟩)))
        go_ret
        exact ⟨by rw [hT.out]; rfl, hI.B.trans (b2.mono hI.B.size)⟩
      · have hM1 := mix1_yes bs bh bw s (hsF H0 l q) _ wr (by omega) hh (word_u64 ((hby.drop (8 * q)).take s) (by have := List.length_take_le s (l.drop (8 * q)); omega)) hS hH hW hRr hn2 hn1 hn3
        have hT : Hid (tagF k0 k1 l = mixF (mixF (hsF H0 l q) (wordF ((l.drop (8 * q)).take s))) n) := by
          show tagF k0 k1 l = _
          rw [tag_odd (q := q) (s := s) (by rw [Hn.out]; exact HI.out.symm) (by omega) hs8, HH0.out, Hn.out]
        have hM := fun W hr => mix_any (mixF (hsF H0 l q) (wordF ((l.drop (8 * q)).take s))) n W (mixF_u64 _ _) ⟨by omega, by omega⟩ hr
        go_wp2_with (first
          | (refine wpl_loadf (by rfl) 1 _ (by rfl) bf 0 (by rfl) _ _ hF _ rfl _ Tryd.underlying1 rfl ?_)
          | (go_at_call 44; ((with_reducible refine hM1.mono ?_); rintro e w2 ⟨rfl, S2, H2, W2, K2⟩; (have R2 : Rnd w2 := K2.rnd hI.R (by simp; omega)); (have B2 := K2.toBelow hI.B hI.B.size (by simp; omega))))
          | (refine wpl_loadf (by rfl) 22 _ (by rfl) bh 0 (by rfl) _ _ H2 _ rfl _ Tryd.underlying22 rfl ?_)
          | (go_at_call 33; ((with_reducible refine (hM _ R2).mono ?_); rintro e w3 ⟨rfl, b3⟩)))
        go_ret
        exact ⟨by rw [hT.out]; rfl, B2.trans (b3.mono B2.size)⟩
end Go.Proofs.YtkccmmhofhaccaaDoor
namespace Go.Proofs.YtkccmmhofhaccaaDoor
open Go.RowKit
set_option linter.unusedSimpArgs false
set_option linter.unusedVariables false
set_option maxRecDepth 100000
section
variable {P : Program} {w : World} {fn : Func} {tmps : Array Value}
theorem load_res {g : Nat} {T T' : TypeId} {cs : List Value} {d : TypeDesc} (hB : Blk w g T' cs) (hu : P.underlying T = some d) (hd : d.isRow = true) {n : Nat} (hi : (P.info? T).map (·.size) = some n) (hn : cs.length = n) : (loadVar T ⟨g, 0, none⟩).run P w = .ok (.agg cs.toArray) w := by
  subst hn
  exact run_loadVar_mid w g 0 T cs d hB.range hu hd hi
/-- one result, in memory -/
theorem res_c {c : Tmp} {T T' : TypeId} (h : fn.results = #[.cell c T]) {g : Nat} {cs : List Value} {d : TypeDesc} (hp : tmps.getD c undef = .pointer (some ⟨g, 0, none⟩)) (hB : Blk w g T' cs) (hu : P.underlying T = some d) (hd : d.isRow = true) {n : Nat} (hi : (P.info? T).map (·.size) = some n) (hn : cs.length = n) :
    (results fn tmps).run P w = .ok (.agg cs.toArray) w := by
  have hl := load_res hB hu hd hi hn
  rw [Array.getD_eq_getD_getElem?] at hp
  simp [results, h, hp, asAddr, Sem.run_bind, hl]
/-- a result in memory, and one more -/
theorem res_cx {c x : Tmp} {T T' : TypeId} (h : fn.results = #[.cell c T, .tmp x]) {g : Nat} {cs : List Value} {d : TypeDesc} (hp : tmps.getD c undef = .pointer (some ⟨g, 0, none⟩)) (hB : Blk w g T' cs) (hu : P.underlying T = some d) (hd : d.isRow = true) {n : Nat} (hi : (P.info? T).map (·.size) = some n) (hn : cs.length = n) {v : Value} (hv : tmps.getD x undef = v) :
    (results fn tmps).run P w = .ok (.tuple #[.agg cs.toArray, v]) w := by
  have hl := load_res hB hu hd hi hn
  subst hv
  rw [Array.getD_eq_getD_getElem?] at hp
  simp [results, h, hp, asAddr, Sem.run_bind, hl]
/-- a result in memory, and two more -/
theorem res_cxy {c x y : Tmp} {T T' : TypeId} (h : fn.results = #[.cell c T, .tmp x, .tmp y]) {g : Nat} {cs : List Value} {d : TypeDesc} (hp : tmps.getD c undef = .pointer (some ⟨g, 0, none⟩)) (hB : Blk w g T' cs) (hu : P.underlying T = some d) (hd : d.isRow = true) {n : Nat} (hi : (P.info? T).map (·.size) = some n) (hn : cs.length = n) {v u : Value} (hv : tmps.getD x undef = v) (hw : tmps.getD y undef = u) :
    (results fn tmps).run P w = .ok (.tuple #[.agg cs.toArray, v, u]) w := by
  have hl := load_res hB hu hd hi hn
  subst hv hw
  rw [Array.getD_eq_getD_getElem?] at hp
  simp [results, h, hp, asAddr, Sem.run_bind, hl]
/-- two results in memory, and one more -/
theorem res_ccx {c c' x : Tmp} {T T' : TypeId} (h : fn.results = #[.cell c T, .cell c' T, .tmp x]) {g g' : Nat} {cs cs' : List Value} {d : TypeDesc} (hp : tmps.getD c undef = .pointer (some ⟨g, 0, none⟩)) (hp' : tmps.getD c' undef = .pointer (some ⟨g', 0, none⟩)) (hB : Blk w g T' cs) (hB' : Blk w g' T' cs') (hu : P.underlying T = some d) (hd : d.isRow = true) {n : Nat} (hi : (P.info? T).map (·.size) = some n) (hn : cs.length = n) (hn' : cs'.length = n) {v : Value} (hv : tmps.getD x undef = v) :
    (results fn tmps).run P w = .ok (.tuple #[.agg cs.toArray, .agg cs'.toArray, v]) w := by
  have hl := load_res hB hu hd hi hn
  have hl' := load_res hB' hu hd hi hn'
  subst hv
  rw [Array.getD_eq_getD_getElem?] at hp hp'
  simp [results, h, hp, hp', asAddr, Sem.run_bind, hl, hl']
end
end Go.Proofs.YtkccmmhofhaccaaDoor
namespace Go.Proofs.YtkccmmhofhaccaaDoor
open Go.RowKit
set_option linter.unusedSimpArgs false
set_option linter.unusedVariables false
set_option maxRecDepth 100000
theorem tagF_u64 (k0 k1 : Int) (l : List Int) : U64 (tagF k0 k1 l) := mixF_u64 _ _
/-- the keys of a generation -/
def mkA (s g : Int) : Int := mixF s (2 * g)
def mkB (s g : Int) : Int := mixF s (2 * g + 1)
def padL : List Int := [112, 97, 100]
def labL : List Int := [116, 97, 103]
def padK (s g : Int) : Int := mixF (tagF (mkA s g) (mkB s g) padL) 1
def padF (s g nonce i : Int) : Int := mixF (mixF (padK s g) nonce) (i + 1)
def jtag (s g : Int) (l : List Int) : Int := tagF (mixF (tagF (mkA s g) (mkB s g) labL) 1) (mixF (tagF (mkA s g) (mkB s g) labL) 2) l
theorem mkA_u64 (s g : Int) : U64 (mkA s g) := mixF_u64 _ _
theorem mkB_u64 (s g : Int) : U64 (mkB s g) := mixF_u64 _ _
theorem padF_u64 (s g n i : Int) : U64 (padF s g n i) := mixF_u64 _ _
theorem jtag_u64 (s g : Int) (l : List Int) : U64 (jtag s g l) := mixF_u64 _ _
/-- a generation -/
def Gn (g : Int) : Prop := 0 ≤ g ∧ g ≤ 2147483647
set_option maxHeartbeats 4000000 in
theorem derive_any (k0 k1 : Int) (A : Option Addr) (n c : Nat) (l : List Int) (w : World) (hk0 : U64 k0) (hk1 : U64 k1) (hn : l.length = n) (h : Bs w 0 w.heap.size A l) (hm : n ≤ 1000000) (hnc : n ≤ c) (hcc : c ≤ 9223372036854775807) (hR : Rnd w) :
    Calls Tryd.prog 31 #[keyV k0 k1, .slice A n c] w fun e w' => e = .returned (keyV (mixF (tagF k0 k1 l) 1) (mixF (tagF k0 k1 l) 2)) ∧ Below w.heap.size w w' := by
  have hw0 := hR.lt
  have hu := tagF_u64 k0 k1 l
  have hT := fun W hB hr => tag_any k0 k1 A n c l W hk0 hk1 hn hB hm hnc hcc hr
  generalize tagF k0 k1 l = t at hu hT ⊢
  have hM1 := fun W hr => mix_any t 1 W hu ⟨by omega, by omega⟩ hr
  have hM2 := fun W hr => mix_any t 2 W hu ⟨by omega, by omega⟩ hr
  generalize mixF t 1 = m1 at hM1 ⊢
  generalize mixF t 2 = m2 at hM2 ⊢
  clear hk0 hk1 hn hm hnc hcc hu
  go_enter Tryd.func31, Tryd.ntmps31
  go_wp2_with (first
    | ((refine wpl_box (by rfl) 24 _ (by rfl) _ (keyL k0 k1) (by rfl) rfl ?_; intro w1 J1 s1 b1); (have R1 := hR.below b1 hw0))
    | (refine wpl_alloc (by rfl) 24 (by rfl) (keyV 0 0) (keyL 0 0) zeroKey rfl ?_; intro w2 X2 s2 b2; (have J2 := J1.below b2 (by omega)); (have R2 := R1.below b2 R1.lt))
    | (refine wpl_load (by rfl) 24 _ (by rfl) w.heap.size (by rfl) 24 _ J2 _ Tryd.underlying24 rfl _ sizeKey (by rfl) ?_)
    | (go_at_call 34; ((with_reducible refine (hT _ (((h.below b1 (Nat.le_refl _)).below b2 (by omega)).wide (Nat.le_refl _) (by omega)) R2).mono ?_); rintro e w3 ⟨rfl, b3⟩; (have X3 := X2.below b3 (by omega)); (have R3 := R2.below b3 R2.lt); (have z3 := b3.size)))
    | (go_at_call 33; ((with_reducible refine (hM1 _ R3).mono ?_); rintro e w4 ⟨rfl, b4⟩; (have X4 := X3.below b4 (by omega)); (have R4 := R3.below b4 R3.lt); (have z4 := b4.size)))
    | (go_at_call 33; ((with_reducible refine (hM2 _ R4).mono ?_); rintro e w5 ⟨rfl, b5⟩; (have X5 := X4.below b5 (by omega)); (have z5 := b5.size)))
    | (refine wpl_store (by rfl) 24 _ _ (by rfl) w1.heap.size (by rfl) _ (by rfl) (keyL m1 m2) rfl 24 _ X5 (show (2 : Nat) = 2 from rfl) _ sizeKey (by rfl) (by simp [Value.oneCell']) ?_; intro w6 X6 s6 g6))
  refine bodyPost_ret (res_c Tryd.results31 (by rfl) X6 Tryd.underlying24 rfl sizeKey (by rfl)) rfl ?_
  exact ⟨rfl, ((((b1.trans (b2.mono (by omega))).trans (b3.mono (by omega))).trans (b4.mono (by omega))).trans (b5.mono (by omega))).trans (g6.below (by omega) (by omega))⟩
/-- a jar of the reference -/
abbrev jarL (s k g : Int) : List Value := [.int .u64 s, .int .i64 k, .int .i64 g]
theorem two_u64 {g : Int} (h : Gn g) : IntKind.u64.wrap (2 * g) = 2 * g ∧ IntKind.u64.wrap (2 * g + 1) = 2 * g + 1 ∧ IntKind.i64.wrap (2 * g) = 2 * g ∧ IntKind.i64.wrap (2 * g + 1) = 2 * g + 1 ∧ IntKind.u64.wrap g = g := by
  obtain ⟨h0, h1⟩ := h
  refine ⟨?_, ?_, ?_, ?_, ?_⟩
  · rw [IntKind.wrap_u64]; omega
  · rw [IntKind.wrap_u64]; omega
  · rw [IntKind.wrap_i64]; omega
  · rw [IntKind.wrap_i64]; omega
  · rw [IntKind.wrap_u64]; omega
end Go.Proofs.YtkccmmhofhaccaaDoor
