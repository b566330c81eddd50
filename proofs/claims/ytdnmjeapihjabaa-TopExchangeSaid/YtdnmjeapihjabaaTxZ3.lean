/- Strings as lists of bytes; conversions between strings and byte slices. (Merge with Stamp3, Stamp4, StampText where a seat needs both.) What ntpmsg.Code, Kiss and Synced compute, and the law's own comparison of bytes; stamp of small readings of the reference. What ntpmsg.Kiss computes. The type of headers: its size, its zero; small laws on memory for regions that draw their order. What a stretch of a walk leaves alone: all blocks that stood before, but those of a list. For regions that draw their order. No function of the program occurs here. What each function of package server that makes a reply, and its reference, computes. -/
import Derived.Test.YtdnmjeapihjabaaTxZ1
import Derived.Laws.IdiomStrings
import Derived.Test.YtdnmjeapihjabaaTxZ2
namespace Go.Proofs.Ytdnmjeapihjabaa
open Go.RowKit
set_option linter.unusedSimpArgs false
set_option linter.unusedVariables false
set_option maxRecDepth 100000
/-- a string's byte as a number -/
def sb (s : ByteArray) (k : Nat) : Int := ((s.data.toList.getD k 0).toNat : Int)
theorem sb_rng (s : ByteArray) (k : Nat) : 0 ≤ sb s k ∧ sb s k ≤ 255 := by
  unfold sb; have := (s.data.toList.getD k 0).toNat_lt; omega
theorem sb_get (s : ByteArray) (k : Nat) (h : k < s.size) : ((s[k]'h).toNat : Int) = sb s k := by
  unfold sb
  congr 2
  have h2 : k < s.data.toList.length := by simpa using h
  rw [List.getD_eq_getElem?_getD, List.getElem?_eq_getElem h2]
  rfl
/-- a string's bytes -/
def bl (s : ByteArray) : List Int := s.data.toList.map fun c => (c.toNat : Int)
theorem bl_len (s : ByteArray) : (bl s).length = s.size := by simp [bl]
theorem bl_at (s : ByteArray) (k : Nat) : atB (bl s) k = sb s k := by
  unfold atB bl sb
  rcases Nat.lt_or_ge k s.data.toList.length with h | h
  · simp [List.getD_eq_getElem?_getD, List.getElem?_eq_getElem h]
  · simp [List.getD_eq_getElem?_getD, List.getElem?_eq_none h]
theorem bl_byt (s : ByteArray) : Byt (bl s) := by
  intro x hx
  obtain ⟨c, _, rfl⟩ := List.mem_map.1 hx
  have := c.toNat_lt
  omega
/-- the string of bytes -/
def strOf (l : List Int) : ByteArray := ⟨(l.map fun n => UInt8.ofNat n.toNat).toArray⟩
theorem strOf_bl (s : ByteArray) : strOf (bl s) = s := by
  unfold strOf bl
  rw [List.map_map]
  have : (s.data.toList.map ((fun n : Int => UInt8.ofNat n.toNat) ∘ fun c : UInt8 => (c.toNat : Int))) = s.data.toList := by
    rw [List.map_congr_left (g := id)]
    · simp
    · intro c _; simp
  rw [this]
theorem bl_strOf {l : List Int} (h : Byt l) : bl (strOf l) = l := by
  unfold strOf bl
  simp only [List.toList_toArray, List.map_map]
  rw [List.map_congr_left (g := id)]
  · simp
  · intro x hx
    have := h x hx
    simp only [Function.comp, id, UInt8.toNat_ofNat']
    omega
theorem strOf_conv {w : World} {lo hi c n : Nat} {A : Option Addr} {l : List Int} (hn : l.length = n) (h : Bs w lo hi A l) (hA : 0 < n) :
    (convert 39 9 (.slice A n c)).run Try.prog w = .ok (.string (strOf l)) w := by
  subst hn
  obtain ⟨b, o, rfl, _, _, hc⟩ := h.at hA
  have hr := run_convert_bytes_back (P := Try.prog) w 39 9 5 ⟨b, o, none⟩ c (l.map fun n => UInt8.ofNat n.toNat) Try.underlying39 Try.underlying5 Try.underlying9 (fun j hj => by
    rw [List.length_map] at hj
    rw [ofAdd, hc j hj]
    have hb := h.byt.at j
    have e : atB l j = l[j] := by simp [atB, List.getD_eq_getElem?_getD, List.getElem?_eq_getElem hj]
    rw [e] at hb ⊢
    simp only [List.getElem_map]
    congr 2
    simp only [UInt8.toNat_ofNat']
    omega)
  rw [List.length_map] at hr
  exact hr
/-- a string turned into bytes: new memory that reads as the string -/
theorem bytes_conv (s : ByteArray) (w : World) (hs : s.size ≤ 9223372036854775807) : ∃ c w', (convert 9 39 (.string s)).run Try.prog w = .ok (.slice (some ⟨w.heap.size, 0, none⟩) s.size c) w' ∧ Bs w' w.heap.size w'.heap.size (some ⟨w.heap.size, 0, none⟩) (bl s) ∧ s.size ≤ c ∧ c ≤ 9223372036854775807 ∧ Below w.heap.size w w' := by
  have hr := run_bytes_of_string (P := Try.prog) w 9 39 5 s Try.underlying9 Try.underlying39 Try.underlying5
  refine ⟨_, _, hr, ⟨bl_byt s, fun hp => ⟨w.heap.size, 0, rfl, Nat.le_refl _, by simp, fun k hk => ?_⟩⟩, grownCap_ge _ _ _ _, (by have := grownCap_le_maxLen w s.size 0 5 (by unfold maxLen; omega); unfold maxLen at this; omega), (Below.drew (Below.refl _ w)).alloc (by simp) _⟩
  rw [bl_len] at hk
  have h := heap_alloc_new w.drew (.cells (bytesRow s (grownCap w s.size 0 5)) 5 ((bytesRow s (grownCap w s.size 0 5)).size, (bytesRow s (grownCap w s.size 0 5)).size + 1))
  have hc := cell_of_row _ w.drew.heap.size k _ _ _ h
  rw [Nat.zero_add]
  refine Eq.trans hc ?_
  rw [bl_at]
  unfold bytesRow sb
  have hk2 : k < s.data.size := hk
  rw [Array.getElem?_append_left (by simpa using hk2)]
  simp [hk2, List.getD_eq_getElem?_getD]
  exact ⟨s.data[k], Array.getElem?_eq_getElem hk2, by rw [Array.getElem?_eq_getElem hk2]; rfl⟩
end Go.Proofs.Ytdnmjeapihjabaa
namespace Go.Proofs.Ytdnmjeapihjabaa
open Go.RowKit
set_option linter.unusedSimpArgs false
set_option linter.unusedVariables false
set_option maxRecDepth 100000
/-- four letters from A to Z -/
def icB (s : ByteArray) : Bool := decide (s.size = 4 ∧ ∀ k : Fin 4, 65 ≤ sb s k ∧ sb s k ≤ 90)
set_option maxHeartbeats 1000000 in
theorem isCode_any (s : ByteArray) (w : World) (hs : s.size ≤ 9223372036854775807) :
    Calls Try.prog 65 #[.string s] w fun e w' => e = .returned (.bool (icB s)) ∧ w = w' := by
  by_cases h4 : s.size = 4
  · go_enter Try.func65, Try.ntmps65
    go_wp2
    go_loop [9] (fun i => ∃ k : Nat, k ≤ 4 ∧ i = .int .i64 k ∧ Hid (∀ j, j < k → 65 ≤ sb s j ∧ sb s j ≤ 90)) (fun i => 4 - (intOf i).toNat)
    case atStart => exact ⟨0, by omega, rfl, fun j hj => by omega⟩
    case round =>
      obtain ⟨k, hk, rfl, HK⟩ := hrel
      by_cases hlt : k < 4
      · have ek := sb_get s k (by omega)
        have hrk := sb_rng s k
        have hltI : (k : Int) < 4 := by omega
        by_cases hx : 65 ≤ sb s k
        · by_cases hy : sb s k ≤ 90
          · go_wp2
            exact ⟨⟨k + 1, by omega, by go_num, fun j hj => (Nat.lt_or_ge j k).elim (fun h => HK.out j h) (fun h => (by omega : j = k) ▸ ⟨hx, hy⟩)⟩, by simp [intOf]; omega⟩
          · have HR : Hid (icB s = false) := decide_eq_false (fun h => hy (h.2 ⟨k, hlt⟩).2)
            go_wp2
            go_ret
            exact ⟨ret_bool HR.out.symm, rfl⟩
        · have HR : Hid (icB s = false) := decide_eq_false (fun h => hx (h.2 ⟨k, hlt⟩).1)
          go_wp2
          go_ret
          exact ⟨ret_bool HR.out.symm, rfl⟩
      · obtain rfl : k = 4 := by omega
        have HR : Hid (icB s = true) := decide_eq_true ⟨h4, fun j => HK.out j j.2⟩
        go_wp2
        go_ret
        exact ⟨ret_bool HR.out.symm, rfl⟩
  · have hne : ((s.size : Int) != 4) = true := by simp; omega
    have HR : Hid (icB s = false) := decide_eq_false (fun h => h4 h.1)
    go_enter Try.func65, Try.ntmps65
    go_wp2
    go_ret
    exact ⟨ret_bool HR.out.symm, rfl⟩
theorem numB_le_pow {L : List Int} (h : Byt L) : numB L < 256 ^ L.length := by
  have aux : ∀ k : Nat, k ≤ L.length → numB (L.take k) < 256 ^ k := by
    intro k
    induction k with
    | zero => intro _; simp [numB]
    | succ k ih =>
      intro hk
      have h1 := ih (by omega)
      have h2 := h.at k
      have h3 := (numB_range (L.take k)).1
      rw [numB_succ L k (by omega), Int.pow_succ]
      have : stepB (numB (L.take k)) (atB L k) ≤ numB (L.take k) * 256 + atB L k := by unfold stepB; omega
      omega
  have := aux L.length (Nat.le_refl _)
  rwa [List.take_length] at this
def syncB (l st : Int) : Bool := decide (l ≠ 3 ∧ 1 ≤ st ∧ st ≤ 15)
set_option maxHeartbeats 400000 in
theorem synced_any (l v m st po pr rd rp id ref org rec xmt : Int) (w : World) :
    Calls Try.prog 44 #[ntp l v m st po pr rd rp id ref org rec xmt] w fun e w' => e = .returned (.bool (syncB l st)) ∧ Below w.heap.size w w' := by
  have HD : Hid (syncB l st = decide (l ≠ 3 ∧ 1 ≤ st ∧ st ≤ 15)) := rfl
  rw [HD.out]
  by_cases h0 : l = 3
  · subst h0
    go_enter Try.func44, Try.ntmps44
    go_wp2_with (first | (go_at_call 27; ((with_reducible refine (within_any _ _ _ _).mono ?_); rintro e w1 ⟨rfl, rfl⟩)))
    go_ret
    exact ⟨ret_bool (by simp), by (repeat (first | assumption | exact Below.refl _ _ | refine Below.drew ?_ | refine below_drewN ?_ _ | refine Below.setCell ?_ (by first | omega | (simp; done) | (simp <;> omega)) _ | refine Below.alloc ?_ (by first | omega | (simp; done) | (simp <;> omega)) _ | refine Below.trans ?_ (Below.mono (by assumption) (by first | omega | (simp; done) | (simp <;> omega)))))⟩
  · have h1 : (l != 3) = true := by simpa using h0
    have H0 := Lib.hid h0
    clear h0
    go_enter Try.func44, Try.ntmps44
    go_wp2_with (first | (go_at_call 27; ((with_reducible refine (within_any _ _ _ _).mono ?_); rintro e w1 ⟨rfl, rfl⟩)))
    go_ret
    exact ⟨ret_bool (by simp [H0.out]), by (repeat (first | assumption | exact Below.refl _ _ | refine Below.drew ?_ | refine below_drewN ?_ _ | refine Below.setCell ?_ (by first | omega | (simp; done) | (simp <;> omega)) _ | refine Below.alloc ?_ (by first | omega | (simp; done) | (simp <;> omega)) _ | refine Below.trans ?_ (Below.mono (by assumption) (by first | omega | (simp; done) | (simp <;> omega)))))⟩
end Go.Proofs.Ytdnmjeapihjabaa
namespace Go.Proofs.Ytdnmjeapihjabaa
open Go.RowKit
set_option linter.unusedSimpArgs false
set_option linter.unusedVariables false
set_option maxRecDepth 100000
/-- the text of a reference id -/
def idS (id : Int) : ByteArray := strOf (bytesB 4 id)
def ksB (st id : Int) : Bool := decide (st = 0) && icB (idS id)
def ksS (st id : Int) : ByteArray := if ksB st id then idS id else ⟨#[]⟩
theorem idS_size (id : Int) : (idS id).size = 4 := by
  rw [← bl_len, idS, bl_strOf (bytesB_byt 4 id), bytesB_length]
set_option maxHeartbeats 2000000 in
theorem kiss_any (l v m st po pr rd rp id ref org rec xmt : Int) (w : World) (hid : 0 ≤ id ∧ id ≤ 4294967295) :
    Calls Try.prog 57 #[ntp l v m st po pr rd rp id ref org rec xmt] w fun e w' => e = .returned (.tuple #[.string (ksS st id), .bool (ksB st id)]) ∧ Below w.heap.size w w' := by
  by_cases h0 : st = 0
  · subst h0
    have hw : IntKind.u64.wrap id = id := by rw [IntKind.wrap_u64]; omega
    have hsz := idS_size id
    have hi := fun W => isCode_any (idS id) W (by omega)
    have hsz' := Lib.hid hsz
    clear hsz
    have hf : Fits [(id, 4)] := by
      intro p hp
      simp only [List.mem_cons, List.not_mem_nil, or_false] at hp
      subst hp; simp; omega
    have he : encB [(id, 4)] = bytesB 4 id := by simp [encB]
    cases hc : icB (idS id) with
    | false =>
      have hk : ksB 0 id = false := by simp [ksB, hc]
      have hS : Hid (ksS 0 id = ⟨#[]⟩) := by show ksS 0 id = _; unfold ksS; rw [hk]; rfl
      have hK := Lib.hid hk
      simp only [hc] at hi
      clear hk hc
      go_enter Try.func57, Try.ntmps57
      go_wp2_with (first | (refine wpl_box (by rfl) 29 _ (by rfl) _ ([.int .i64 l, .int .i64 v, .int .i64 m, .int .i64 0, .int .i64 po, .int .i64 pr, .int .u32 rd, .int .u32 rp, .int .u32 id, .int .u64 ref, .int .u64 org, .int .u64 rec, .int .u64 xmt]) (by rfl) rfl ?_; intro w1 H1 s1 b1) | (refine wpl_loadf (by rfl) 3 _ (by rfl) w.heap.size 3 (by rfl) _ _ H1 _ rfl _ Try.underlying3 rfl ?_) | (refine wpl_loadf (by rfl) 27 _ (by rfl) w.heap.size 8 (by rfl) _ _ H1 _ rfl _ Try.underlying27 rfl ?_))
      have hP := put_any w1.heap.size [(id, 4)] 2 2 24 (w1.alloc (.cells #[.int .u64 id, .int .u64 4] 24)) (heap_alloc_new _ _) rfl hf (by simp)
      rw [he, bytesB_length] at hP
      with_reducible refine hP.mono ?_
      rintro e w2 ⟨A, c, rfl, hB, hc4, hcm, hb2⟩
      have hv := strOf_conv (bytesB_length 4 id) hB (by omega) (c := c)
      have B2 : Below w.heap.size w w2 := (b1.alloc (by omega) _).trans (hb2.mono (by simp; omega))
      clear hP hb2
      rw [show strOf (bytesB 4 id) = idS id from rfl] at hv
      go_wp2_with (first | (go_at_call 65; ((with_reducible refine (hi _).mono ?_); rintro e w1 ⟨rfl, rfl⟩)))
      go_ret2
      exact ⟨tup2 (vstr hS.out.symm) (vbool hK.out.symm), B2⟩
    | true =>
      have hk : ksB 0 id = true := by simp [ksB, hc]
      have hS : Hid (ksS 0 id = idS id) := by show ksS 0 id = _; unfold ksS; rw [hk]; rfl
      have hK := Lib.hid hk
      simp only [hc] at hi
      clear hk hc
      go_enter Try.func57, Try.ntmps57
      go_wp2_with (first | (refine wpl_box (by rfl) 29 _ (by rfl) _ ([.int .i64 l, .int .i64 v, .int .i64 m, .int .i64 0, .int .i64 po, .int .i64 pr, .int .u32 rd, .int .u32 rp, .int .u32 id, .int .u64 ref, .int .u64 org, .int .u64 rec, .int .u64 xmt]) (by rfl) rfl ?_; intro w1 H1 s1 b1) | (refine wpl_loadf (by rfl) 3 _ (by rfl) w.heap.size 3 (by rfl) _ _ H1 _ rfl _ Try.underlying3 rfl ?_) | (refine wpl_loadf (by rfl) 27 _ (by rfl) w.heap.size 8 (by rfl) _ _ H1 _ rfl _ Try.underlying27 rfl ?_))
      have hP := put_any w1.heap.size [(id, 4)] 2 2 24 (w1.alloc (.cells #[.int .u64 id, .int .u64 4] 24)) (heap_alloc_new _ _) rfl hf (by simp)
      rw [he, bytesB_length] at hP
      with_reducible refine hP.mono ?_
      rintro e w2 ⟨A, c, rfl, hB, hc4, hcm, hb2⟩
      have hv := strOf_conv (bytesB_length 4 id) hB (by omega) (c := c)
      have B2 : Below w.heap.size w w2 := (b1.alloc (by omega) _).trans (hb2.mono (by simp; omega))
      clear hP hb2
      rw [show strOf (bytesB 4 id) = idS id from rfl] at hv
      go_wp2_with (first | (go_at_call 65; ((with_reducible refine (hi _).mono ?_); rintro e w1 ⟨rfl, rfl⟩)))
      go_ret2
      exact ⟨tup2 (vstr hS.out.symm) (vbool hK.out.symm), B2⟩
  · have hne : (st != 0) = true := by simpa using h0
    have hk : ksB st id = false := by simp [ksB, h0]
    have hS : Hid (ksS st id = ⟨#[]⟩) := by show ksS st id = _; unfold ksS; rw [hk]; rfl
    have hK := Lib.hid hk
    clear hk h0
    go_enter Try.func57, Try.ntmps57
    go_wp2
    go_ret2
    exact ⟨tup2 (vstr hS.out.symm) (vbool hK.out.symm), by (repeat (first | assumption | exact Below.refl _ _ | refine Below.drew ?_ | refine below_drewN ?_ _ | refine Below.setCell ?_ (by first | omega | (simp; done) | (simp <;> omega)) _ | refine Below.alloc ?_ (by first | omega | (simp; done) | (simp <;> omega)) _ | refine Below.trans ?_ (Below.mono (by assumption) (by first | omega | (simp; done) | (simp <;> omega)))))⟩
end Go.Proofs.Ytdnmjeapihjabaa
namespace Go.Proofs.Ytdnmjeapihjabaa
open Go.RowKit
set_option linter.unusedSimpArgs false
set_option linter.unusedVariables false
set_option maxRecDepth 100000
abbrev zN : List Value := [.int .i64 0, .int .i64 0, .int .i64 0, .int .i64 0, .int .i64 0, .int .i64 0, .int .u32 0, .int .u32 0, .int .u32 0, .int .u64 0, .int .u64 0, .int .u64 0, .int .u64 0]
theorem zeroNtp : (Try.prog.info? 29).map (·.zero) = some (some (.agg zN.toArray)) := by kernel_rfl
theorem sizeI64 : (Try.prog.info? 3).map (·.size) = some 1 := by kernel_rfl
abbrev ntp0 : Value := .agg zN.toArray
theorem sizeNtp : (Try.prog.info? 29).map (·.size) = some 13 := by kernel_rfl
end Go.Proofs.Ytdnmjeapihjabaa
namespace Go.Proofs.Ytdnmjeapihjabaa
open Go.RowKit
set_option linter.unusedSimpArgs false
set_option linter.unusedVariables false
set_option maxRecDepth 100000
/-- y is x with new blocks, and writes to the blocks G alone -/
structure Kp (x : World) (G : List Nat) (y : World) : Prop where
  os : y.os = x.os
  tape : y.tape = x.tape
  output : y.output = x.output
  size : x.heap.size ≤ y.heap.size
  block : ∀ b, b < x.heap.size → b ∉ G → y.heap[b]? = x.heap[b]?
theorem own_kept {w w' : World} {base size n : Nat} {e : TypeId} {v : Value} {xs : List Value} (h : w.ownsRow base e size v n xs) (hk : ∀ g, v.ownBlock = some g → w'.heap[g]? = w.heap[g]?) : w'.ownsRow base e size v n xs := by
  refine ⟨h.1, ?_⟩
  rcases h.2 with hn | ⟨g, cap, cur, rfl, hb, hgg, rest⟩
  · exact .inl hn
  · exact .inr ⟨g, cap, cur, rfl, hb, (hk g (by simp [Value.ownBlock])).trans hgg, rest⟩
section
variable {x y z : World} {G : List Nat}
theorem Kp.refl (x : World) (G : List Nat) : Kp x G x := ⟨rfl, rfl, rfl, Nat.le_refl _, fun _ _ _ => rfl⟩
theorem Kp.drew (h : Kp x G y) : Kp x G y.drew := ⟨h.os, h.tape, h.output, h.size, h.block⟩
theorem Kp.of_drew (h : Kp x.drew G y) : Kp x G y := ⟨h.os, h.tape, h.output, h.size, h.block⟩
theorem Kp.drewN (h : Kp x G y) (n : Nat) : Kp x G (y.drewN n) := ⟨h.os, h.tape, h.output, h.size, h.block⟩
theorem Kp.alloc (o : Obj) (h : Kp x G y) : Kp x G (y.alloc o) := ⟨h.os, h.tape, h.output, by have := h.size; simp; omega, fun b hb hg => (heap_alloc_old y o (by have := h.size; omega)).trans (h.block b hb hg)⟩
theorem Kp.below {C : Nat} (hb : Below C y z) (h : Kp x G y) (hC : x.heap.size ≤ C) : Kp x G z := ⟨hb.os.trans h.os, hb.tape.trans h.tape, hb.output.trans h.output, Nat.le_trans h.size hb.size, fun b hx hg => (hb.block b (by omega)).trans (h.block b hx hg)⟩
theorem Kp.belowS (hb : Below y.heap.size y z) (h : Kp x G y) : Kp x G z := h.below hb h.size
theorem Kp.but {g : Nat} (hb : But g y z) (h : Kp x G y) (hg : x.heap.size ≤ g ∨ g ∈ G) : Kp x G z := ⟨hb.os.trans h.os, hb.tape.trans h.tape, hb.output.trans h.output, Nat.le_trans h.size hb.size, fun b hx hn => (hb.block b (by have := h.size; omega) (by
  simp only [ne_eq, Option.some.injEq]
  rintro rfl
  rcases hg with hg | hg
  · omega
  · exact hn hg)).trans (h.block b hx hn)⟩
theorem Kp.set {b i : Nat} {s : Option Nat} {v : Value} (h : Kp x G y) (hb : x.heap.size ≤ b ∨ b ∈ G) : Kp x G (y.setCell ⟨b, i, s⟩ v) := ⟨h.os, h.tape, h.output, by have := h.size; simpa [World.setCell] using this, fun c hc hn => (Below.heap_setCell y ⟨b, i, s⟩ v c (by
  show c ≠ b
  rintro rfl
  rcases hb with hb | hb
  · omega
  · exact hn hb)).trans (h.block c hc hn)⟩
theorem Kp.trans (h : Kp x G y) (k : Kp y G z) : Kp x G z := ⟨k.os.trans h.os, k.tape.trans h.tape, k.output.trans h.output, Nat.le_trans h.size k.size, fun b hb hg => (k.block b (by have := h.size; omega) hg).trans (h.block b hb hg)⟩
theorem Kp.toBelow {B : Nat} {w : World} (h : Kp x G y) (hb : Below B w x) (hB : B ≤ x.heap.size) (hG : ∀ g ∈ G, B ≤ g) : Below B w y := ⟨h.os.trans hb.os, h.tape.trans hb.tape, h.output.trans hb.output, Nat.le_trans hb.size h.size, fun b hx => (h.block b (by omega) (fun hg => by have := hG b hg; omega)).trans (hb.block b hx)⟩
theorem Kp.below1 (h : Kp x [] y) : Below x.heap.size x y := ⟨h.os, h.tape, h.output, h.size, fun b hb => h.block b hb (by simp)⟩
theorem Kp.but1 {g : Nat} (h : Kp x [g] y) : But g x y := ⟨h.os, h.tape, h.output, h.size, fun b hb hg => h.block b hb (by simp at hg ⊢; omega)⟩
theorem Kp.of_below (hb : Below x.heap.size x y) : Kp x G y := (Kp.refl x G).belowS hb
theorem Kp.of_but {g : Nat} (hb : But g x y) (hg : x.heap.size ≤ g ∨ g ∈ G) : Kp x G y := (Kp.refl x G).but hb hg
theorem Kp.less {G' : List Nat} (h : Kp x G y) (hG : ∀ g ∈ G, x.heap.size ≤ g ∨ g ∈ G') : Kp x G' y := ⟨h.os, h.tape, h.output, h.size, fun b hb hn => h.block b hb (fun hg => (hG b hg).elim (fun h1 => by omega) hn)⟩
/-- a cell, in a block that is not written -/
def Kc (x : World) (G : List Nat) (b i : Nat) (v : Value) : Prop := x.cell? ⟨b, i, none⟩ = some v ∧ b ∉ G
/-- a cell that is kept -/
theorem kp_cell {b i : Nat} {v : Value} (h : Kp x G y) (hc : Kc x G b i v) : y.cell? ⟨b, i, none⟩ = some v :=
  (World.cell?_of_block (h.block b (World.block_lt_of_cell? x _ hc.1) hc.2)).trans hc.1
theorem kp1 {b1 i1 : Nat} {v1 : Value} (h : Kp x G y) (q1 : Kc x G b1 i1 v1) : y.cell? ⟨b1, i1, none⟩ = some v1 ∧ Kp x G y := ⟨kp_cell h q1, h⟩
theorem kp2 {b1 i1 : Nat} {v1 : Value} {b2 i2 : Nat} {v2 : Value} (h : Kp x G y) (q1 : Kc x G b1 i1 v1) (q2 : Kc x G b2 i2 v2) : y.cell? ⟨b1, i1, none⟩ = some v1 ∧ y.cell? ⟨b2, i2, none⟩ = some v2 ∧ Kp x G y := ⟨kp_cell h q1, kp_cell h q2, h⟩
theorem kp3 {b1 i1 : Nat} {v1 : Value} {b2 i2 : Nat} {v2 : Value} {b3 i3 : Nat} {v3 : Value} (h : Kp x G y) (q1 : Kc x G b1 i1 v1) (q2 : Kc x G b2 i2 v2) (q3 : Kc x G b3 i3 v3) : y.cell? ⟨b1, i1, none⟩ = some v1 ∧ y.cell? ⟨b2, i2, none⟩ = some v2 ∧ y.cell? ⟨b3, i3, none⟩ = some v3 ∧ Kp x G y := ⟨kp_cell h q1, kp_cell h q2, kp_cell h q3, h⟩
theorem kp4 {b1 i1 : Nat} {v1 : Value} {b2 i2 : Nat} {v2 : Value} {b3 i3 : Nat} {v3 : Value} {b4 i4 : Nat} {v4 : Value} (h : Kp x G y) (q1 : Kc x G b1 i1 v1) (q2 : Kc x G b2 i2 v2) (q3 : Kc x G b3 i3 v3) (q4 : Kc x G b4 i4 v4) : y.cell? ⟨b1, i1, none⟩ = some v1 ∧ y.cell? ⟨b2, i2, none⟩ = some v2 ∧ y.cell? ⟨b3, i3, none⟩ = some v3 ∧ y.cell? ⟨b4, i4, none⟩ = some v4 ∧ Kp x G y := ⟨kp_cell h q1, kp_cell h q2, kp_cell h q3, kp_cell h q4, h⟩
theorem kp5 {b1 i1 : Nat} {v1 : Value} {b2 i2 : Nat} {v2 : Value} {b3 i3 : Nat} {v3 : Value} {b4 i4 : Nat} {v4 : Value} {b5 i5 : Nat} {v5 : Value} (h : Kp x G y) (q1 : Kc x G b1 i1 v1) (q2 : Kc x G b2 i2 v2) (q3 : Kc x G b3 i3 v3) (q4 : Kc x G b4 i4 v4) (q5 : Kc x G b5 i5 v5) : y.cell? ⟨b1, i1, none⟩ = some v1 ∧ y.cell? ⟨b2, i2, none⟩ = some v2 ∧ y.cell? ⟨b3, i3, none⟩ = some v3 ∧ y.cell? ⟨b4, i4, none⟩ = some v4 ∧ y.cell? ⟨b5, i5, none⟩ = some v5 ∧ Kp x G y := ⟨kp_cell h q1, kp_cell h q2, kp_cell h q3, kp_cell h q4, kp_cell h q5, h⟩
theorem kp6 {b1 i1 : Nat} {v1 : Value} {b2 i2 : Nat} {v2 : Value} {b3 i3 : Nat} {v3 : Value} {b4 i4 : Nat} {v4 : Value} {b5 i5 : Nat} {v5 : Value} {b6 i6 : Nat} {v6 : Value} (h : Kp x G y) (q1 : Kc x G b1 i1 v1) (q2 : Kc x G b2 i2 v2) (q3 : Kc x G b3 i3 v3) (q4 : Kc x G b4 i4 v4) (q5 : Kc x G b5 i5 v5) (q6 : Kc x G b6 i6 v6) : y.cell? ⟨b1, i1, none⟩ = some v1 ∧ y.cell? ⟨b2, i2, none⟩ = some v2 ∧ y.cell? ⟨b3, i3, none⟩ = some v3 ∧ y.cell? ⟨b4, i4, none⟩ = some v4 ∧ y.cell? ⟨b5, i5, none⟩ = some v5 ∧ y.cell? ⟨b6, i6, none⟩ = some v6 ∧ Kp x G y := ⟨kp_cell h q1, kp_cell h q2, kp_cell h q3, kp_cell h q4, kp_cell h q5, kp_cell h q6, h⟩
theorem kp7 {b1 i1 : Nat} {v1 : Value} {b2 i2 : Nat} {v2 : Value} {b3 i3 : Nat} {v3 : Value} {b4 i4 : Nat} {v4 : Value} {b5 i5 : Nat} {v5 : Value} {b6 i6 : Nat} {v6 : Value} {b7 i7 : Nat} {v7 : Value} (h : Kp x G y) (q1 : Kc x G b1 i1 v1) (q2 : Kc x G b2 i2 v2) (q3 : Kc x G b3 i3 v3) (q4 : Kc x G b4 i4 v4) (q5 : Kc x G b5 i5 v5) (q6 : Kc x G b6 i6 v6) (q7 : Kc x G b7 i7 v7) : y.cell? ⟨b1, i1, none⟩ = some v1 ∧ y.cell? ⟨b2, i2, none⟩ = some v2 ∧ y.cell? ⟨b3, i3, none⟩ = some v3 ∧ y.cell? ⟨b4, i4, none⟩ = some v4 ∧ y.cell? ⟨b5, i5, none⟩ = some v5 ∧ y.cell? ⟨b6, i6, none⟩ = some v6 ∧ y.cell? ⟨b7, i7, none⟩ = some v7 ∧ Kp x G y := ⟨kp_cell h q1, kp_cell h q2, kp_cell h q3, kp_cell h q4, kp_cell h q5, kp_cell h q6, kp_cell h q7, h⟩
theorem kp8 {b1 i1 : Nat} {v1 : Value} {b2 i2 : Nat} {v2 : Value} {b3 i3 : Nat} {v3 : Value} {b4 i4 : Nat} {v4 : Value} {b5 i5 : Nat} {v5 : Value} {b6 i6 : Nat} {v6 : Value} {b7 i7 : Nat} {v7 : Value} {b8 i8 : Nat} {v8 : Value} (h : Kp x G y) (q1 : Kc x G b1 i1 v1) (q2 : Kc x G b2 i2 v2) (q3 : Kc x G b3 i3 v3) (q4 : Kc x G b4 i4 v4) (q5 : Kc x G b5 i5 v5) (q6 : Kc x G b6 i6 v6) (q7 : Kc x G b7 i7 v7) (q8 : Kc x G b8 i8 v8) : y.cell? ⟨b1, i1, none⟩ = some v1 ∧ y.cell? ⟨b2, i2, none⟩ = some v2 ∧ y.cell? ⟨b3, i3, none⟩ = some v3 ∧ y.cell? ⟨b4, i4, none⟩ = some v4 ∧ y.cell? ⟨b5, i5, none⟩ = some v5 ∧ y.cell? ⟨b6, i6, none⟩ = some v6 ∧ y.cell? ⟨b7, i7, none⟩ = some v7 ∧ y.cell? ⟨b8, i8, none⟩ = some v8 ∧ Kp x G y := ⟨kp_cell h q1, kp_cell h q2, kp_cell h q3, kp_cell h q4, kp_cell h q5, kp_cell h q6, kp_cell h q7, kp_cell h q8, h⟩
theorem kp9 {b1 i1 : Nat} {v1 : Value} {b2 i2 : Nat} {v2 : Value} {b3 i3 : Nat} {v3 : Value} {b4 i4 : Nat} {v4 : Value} {b5 i5 : Nat} {v5 : Value} {b6 i6 : Nat} {v6 : Value} {b7 i7 : Nat} {v7 : Value} {b8 i8 : Nat} {v8 : Value} {b9 i9 : Nat} {v9 : Value} (h : Kp x G y) (q1 : Kc x G b1 i1 v1) (q2 : Kc x G b2 i2 v2) (q3 : Kc x G b3 i3 v3) (q4 : Kc x G b4 i4 v4) (q5 : Kc x G b5 i5 v5) (q6 : Kc x G b6 i6 v6) (q7 : Kc x G b7 i7 v7) (q8 : Kc x G b8 i8 v8) (q9 : Kc x G b9 i9 v9) : y.cell? ⟨b1, i1, none⟩ = some v1 ∧ y.cell? ⟨b2, i2, none⟩ = some v2 ∧ y.cell? ⟨b3, i3, none⟩ = some v3 ∧ y.cell? ⟨b4, i4, none⟩ = some v4 ∧ y.cell? ⟨b5, i5, none⟩ = some v5 ∧ y.cell? ⟨b6, i6, none⟩ = some v6 ∧ y.cell? ⟨b7, i7, none⟩ = some v7 ∧ y.cell? ⟨b8, i8, none⟩ = some v8 ∧ y.cell? ⟨b9, i9, none⟩ = some v9 ∧ Kp x G y := ⟨kp_cell h q1, kp_cell h q2, kp_cell h q3, kp_cell h q4, kp_cell h q5, kp_cell h q6, kp_cell h q7, kp_cell h q8, kp_cell h q9, h⟩
theorem kp10 {b1 i1 : Nat} {v1 : Value} {b2 i2 : Nat} {v2 : Value} {b3 i3 : Nat} {v3 : Value} {b4 i4 : Nat} {v4 : Value} {b5 i5 : Nat} {v5 : Value} {b6 i6 : Nat} {v6 : Value} {b7 i7 : Nat} {v7 : Value} {b8 i8 : Nat} {v8 : Value} {b9 i9 : Nat} {v9 : Value} {b10 i10 : Nat} {v10 : Value} (h : Kp x G y) (q1 : Kc x G b1 i1 v1) (q2 : Kc x G b2 i2 v2) (q3 : Kc x G b3 i3 v3) (q4 : Kc x G b4 i4 v4) (q5 : Kc x G b5 i5 v5) (q6 : Kc x G b6 i6 v6) (q7 : Kc x G b7 i7 v7) (q8 : Kc x G b8 i8 v8) (q9 : Kc x G b9 i9 v9) (q10 : Kc x G b10 i10 v10) : y.cell? ⟨b1, i1, none⟩ = some v1 ∧ y.cell? ⟨b2, i2, none⟩ = some v2 ∧ y.cell? ⟨b3, i3, none⟩ = some v3 ∧ y.cell? ⟨b4, i4, none⟩ = some v4 ∧ y.cell? ⟨b5, i5, none⟩ = some v5 ∧ y.cell? ⟨b6, i6, none⟩ = some v6 ∧ y.cell? ⟨b7, i7, none⟩ = some v7 ∧ y.cell? ⟨b8, i8, none⟩ = some v8 ∧ y.cell? ⟨b9, i9, none⟩ = some v9 ∧ y.cell? ⟨b10, i10, none⟩ = some v10 ∧ Kp x G y := ⟨kp_cell h q1, kp_cell h q2, kp_cell h q3, kp_cell h q4, kp_cell h q5, kp_cell h q6, kp_cell h q7, kp_cell h q8, kp_cell h q9, kp_cell h q10, h⟩
theorem kp11 {b1 i1 : Nat} {v1 : Value} {b2 i2 : Nat} {v2 : Value} {b3 i3 : Nat} {v3 : Value} {b4 i4 : Nat} {v4 : Value} {b5 i5 : Nat} {v5 : Value} {b6 i6 : Nat} {v6 : Value} {b7 i7 : Nat} {v7 : Value} {b8 i8 : Nat} {v8 : Value} {b9 i9 : Nat} {v9 : Value} {b10 i10 : Nat} {v10 : Value} {b11 i11 : Nat} {v11 : Value} (h : Kp x G y) (q1 : Kc x G b1 i1 v1) (q2 : Kc x G b2 i2 v2) (q3 : Kc x G b3 i3 v3) (q4 : Kc x G b4 i4 v4) (q5 : Kc x G b5 i5 v5) (q6 : Kc x G b6 i6 v6) (q7 : Kc x G b7 i7 v7) (q8 : Kc x G b8 i8 v8) (q9 : Kc x G b9 i9 v9) (q10 : Kc x G b10 i10 v10) (q11 : Kc x G b11 i11 v11) : y.cell? ⟨b1, i1, none⟩ = some v1 ∧ y.cell? ⟨b2, i2, none⟩ = some v2 ∧ y.cell? ⟨b3, i3, none⟩ = some v3 ∧ y.cell? ⟨b4, i4, none⟩ = some v4 ∧ y.cell? ⟨b5, i5, none⟩ = some v5 ∧ y.cell? ⟨b6, i6, none⟩ = some v6 ∧ y.cell? ⟨b7, i7, none⟩ = some v7 ∧ y.cell? ⟨b8, i8, none⟩ = some v8 ∧ y.cell? ⟨b9, i9, none⟩ = some v9 ∧ y.cell? ⟨b10, i10, none⟩ = some v10 ∧ y.cell? ⟨b11, i11, none⟩ = some v11 ∧ Kp x G y := ⟨kp_cell h q1, kp_cell h q2, kp_cell h q3, kp_cell h q4, kp_cell h q5, kp_cell h q6, kp_cell h q7, kp_cell h q8, kp_cell h q9, kp_cell h q10, kp_cell h q11, h⟩
theorem kp12 {b1 i1 : Nat} {v1 : Value} {b2 i2 : Nat} {v2 : Value} {b3 i3 : Nat} {v3 : Value} {b4 i4 : Nat} {v4 : Value} {b5 i5 : Nat} {v5 : Value} {b6 i6 : Nat} {v6 : Value} {b7 i7 : Nat} {v7 : Value} {b8 i8 : Nat} {v8 : Value} {b9 i9 : Nat} {v9 : Value} {b10 i10 : Nat} {v10 : Value} {b11 i11 : Nat} {v11 : Value} {b12 i12 : Nat} {v12 : Value} (h : Kp x G y) (q1 : Kc x G b1 i1 v1) (q2 : Kc x G b2 i2 v2) (q3 : Kc x G b3 i3 v3) (q4 : Kc x G b4 i4 v4) (q5 : Kc x G b5 i5 v5) (q6 : Kc x G b6 i6 v6) (q7 : Kc x G b7 i7 v7) (q8 : Kc x G b8 i8 v8) (q9 : Kc x G b9 i9 v9) (q10 : Kc x G b10 i10 v10) (q11 : Kc x G b11 i11 v11) (q12 : Kc x G b12 i12 v12) : y.cell? ⟨b1, i1, none⟩ = some v1 ∧ y.cell? ⟨b2, i2, none⟩ = some v2 ∧ y.cell? ⟨b3, i3, none⟩ = some v3 ∧ y.cell? ⟨b4, i4, none⟩ = some v4 ∧ y.cell? ⟨b5, i5, none⟩ = some v5 ∧ y.cell? ⟨b6, i6, none⟩ = some v6 ∧ y.cell? ⟨b7, i7, none⟩ = some v7 ∧ y.cell? ⟨b8, i8, none⟩ = some v8 ∧ y.cell? ⟨b9, i9, none⟩ = some v9 ∧ y.cell? ⟨b10, i10, none⟩ = some v10 ∧ y.cell? ⟨b11, i11, none⟩ = some v11 ∧ y.cell? ⟨b12, i12, none⟩ = some v12 ∧ Kp x G y := ⟨kp_cell h q1, kp_cell h q2, kp_cell h q3, kp_cell h q4, kp_cell h q5, kp_cell h q6, kp_cell h q7, kp_cell h q8, kp_cell h q9, kp_cell h q10, kp_cell h q11, kp_cell h q12, h⟩
theorem kp13 {b1 i1 : Nat} {v1 : Value} {b2 i2 : Nat} {v2 : Value} {b3 i3 : Nat} {v3 : Value} {b4 i4 : Nat} {v4 : Value} {b5 i5 : Nat} {v5 : Value} {b6 i6 : Nat} {v6 : Value} {b7 i7 : Nat} {v7 : Value} {b8 i8 : Nat} {v8 : Value} {b9 i9 : Nat} {v9 : Value} {b10 i10 : Nat} {v10 : Value} {b11 i11 : Nat} {v11 : Value} {b12 i12 : Nat} {v12 : Value} {b13 i13 : Nat} {v13 : Value} (h : Kp x G y) (q1 : Kc x G b1 i1 v1) (q2 : Kc x G b2 i2 v2) (q3 : Kc x G b3 i3 v3) (q4 : Kc x G b4 i4 v4) (q5 : Kc x G b5 i5 v5) (q6 : Kc x G b6 i6 v6) (q7 : Kc x G b7 i7 v7) (q8 : Kc x G b8 i8 v8) (q9 : Kc x G b9 i9 v9) (q10 : Kc x G b10 i10 v10) (q11 : Kc x G b11 i11 v11) (q12 : Kc x G b12 i12 v12) (q13 : Kc x G b13 i13 v13) : y.cell? ⟨b1, i1, none⟩ = some v1 ∧ y.cell? ⟨b2, i2, none⟩ = some v2 ∧ y.cell? ⟨b3, i3, none⟩ = some v3 ∧ y.cell? ⟨b4, i4, none⟩ = some v4 ∧ y.cell? ⟨b5, i5, none⟩ = some v5 ∧ y.cell? ⟨b6, i6, none⟩ = some v6 ∧ y.cell? ⟨b7, i7, none⟩ = some v7 ∧ y.cell? ⟨b8, i8, none⟩ = some v8 ∧ y.cell? ⟨b9, i9, none⟩ = some v9 ∧ y.cell? ⟨b10, i10, none⟩ = some v10 ∧ y.cell? ⟨b11, i11, none⟩ = some v11 ∧ y.cell? ⟨b12, i12, none⟩ = some v12 ∧ y.cell? ⟨b13, i13, none⟩ = some v13 ∧ Kp x G y := ⟨kp_cell h q1, kp_cell h q2, kp_cell h q3, kp_cell h q4, kp_cell h q5, kp_cell h q6, kp_cell h q7, kp_cell h q8, kp_cell h q9, kp_cell h q10, kp_cell h q11, kp_cell h q12, kp_cell h q13, h⟩
theorem kp14 {b1 i1 : Nat} {v1 : Value} {b2 i2 : Nat} {v2 : Value} {b3 i3 : Nat} {v3 : Value} {b4 i4 : Nat} {v4 : Value} {b5 i5 : Nat} {v5 : Value} {b6 i6 : Nat} {v6 : Value} {b7 i7 : Nat} {v7 : Value} {b8 i8 : Nat} {v8 : Value} {b9 i9 : Nat} {v9 : Value} {b10 i10 : Nat} {v10 : Value} {b11 i11 : Nat} {v11 : Value} {b12 i12 : Nat} {v12 : Value} {b13 i13 : Nat} {v13 : Value} {b14 i14 : Nat} {v14 : Value} (h : Kp x G y) (q1 : Kc x G b1 i1 v1) (q2 : Kc x G b2 i2 v2) (q3 : Kc x G b3 i3 v3) (q4 : Kc x G b4 i4 v4) (q5 : Kc x G b5 i5 v5) (q6 : Kc x G b6 i6 v6) (q7 : Kc x G b7 i7 v7) (q8 : Kc x G b8 i8 v8) (q9 : Kc x G b9 i9 v9) (q10 : Kc x G b10 i10 v10) (q11 : Kc x G b11 i11 v11) (q12 : Kc x G b12 i12 v12) (q13 : Kc x G b13 i13 v13) (q14 : Kc x G b14 i14 v14) : y.cell? ⟨b1, i1, none⟩ = some v1 ∧ y.cell? ⟨b2, i2, none⟩ = some v2 ∧ y.cell? ⟨b3, i3, none⟩ = some v3 ∧ y.cell? ⟨b4, i4, none⟩ = some v4 ∧ y.cell? ⟨b5, i5, none⟩ = some v5 ∧ y.cell? ⟨b6, i6, none⟩ = some v6 ∧ y.cell? ⟨b7, i7, none⟩ = some v7 ∧ y.cell? ⟨b8, i8, none⟩ = some v8 ∧ y.cell? ⟨b9, i9, none⟩ = some v9 ∧ y.cell? ⟨b10, i10, none⟩ = some v10 ∧ y.cell? ⟨b11, i11, none⟩ = some v11 ∧ y.cell? ⟨b12, i12, none⟩ = some v12 ∧ y.cell? ⟨b13, i13, none⟩ = some v13 ∧ y.cell? ⟨b14, i14, none⟩ = some v14 ∧ Kp x G y := ⟨kp_cell h q1, kp_cell h q2, kp_cell h q3, kp_cell h q4, kp_cell h q5, kp_cell h q6, kp_cell h q7, kp_cell h q8, kp_cell h q9, kp_cell h q10, kp_cell h q11, kp_cell h q12, kp_cell h q13, kp_cell h q14, h⟩
theorem kp15 {b1 i1 : Nat} {v1 : Value} {b2 i2 : Nat} {v2 : Value} {b3 i3 : Nat} {v3 : Value} {b4 i4 : Nat} {v4 : Value} {b5 i5 : Nat} {v5 : Value} {b6 i6 : Nat} {v6 : Value} {b7 i7 : Nat} {v7 : Value} {b8 i8 : Nat} {v8 : Value} {b9 i9 : Nat} {v9 : Value} {b10 i10 : Nat} {v10 : Value} {b11 i11 : Nat} {v11 : Value} {b12 i12 : Nat} {v12 : Value} {b13 i13 : Nat} {v13 : Value} {b14 i14 : Nat} {v14 : Value} {b15 i15 : Nat} {v15 : Value} (h : Kp x G y) (q1 : Kc x G b1 i1 v1) (q2 : Kc x G b2 i2 v2) (q3 : Kc x G b3 i3 v3) (q4 : Kc x G b4 i4 v4) (q5 : Kc x G b5 i5 v5) (q6 : Kc x G b6 i6 v6) (q7 : Kc x G b7 i7 v7) (q8 : Kc x G b8 i8 v8) (q9 : Kc x G b9 i9 v9) (q10 : Kc x G b10 i10 v10) (q11 : Kc x G b11 i11 v11) (q12 : Kc x G b12 i12 v12) (q13 : Kc x G b13 i13 v13) (q14 : Kc x G b14 i14 v14) (q15 : Kc x G b15 i15 v15) : y.cell? ⟨b1, i1, none⟩ = some v1 ∧ y.cell? ⟨b2, i2, none⟩ = some v2 ∧ y.cell? ⟨b3, i3, none⟩ = some v3 ∧ y.cell? ⟨b4, i4, none⟩ = some v4 ∧ y.cell? ⟨b5, i5, none⟩ = some v5 ∧ y.cell? ⟨b6, i6, none⟩ = some v6 ∧ y.cell? ⟨b7, i7, none⟩ = some v7 ∧ y.cell? ⟨b8, i8, none⟩ = some v8 ∧ y.cell? ⟨b9, i9, none⟩ = some v9 ∧ y.cell? ⟨b10, i10, none⟩ = some v10 ∧ y.cell? ⟨b11, i11, none⟩ = some v11 ∧ y.cell? ⟨b12, i12, none⟩ = some v12 ∧ y.cell? ⟨b13, i13, none⟩ = some v13 ∧ y.cell? ⟨b14, i14, none⟩ = some v14 ∧ y.cell? ⟨b15, i15, none⟩ = some v15 ∧ Kp x G y := ⟨kp_cell h q1, kp_cell h q2, kp_cell h q3, kp_cell h q4, kp_cell h q5, kp_cell h q6, kp_cell h q7, kp_cell h q8, kp_cell h q9, kp_cell h q10, kp_cell h q11, kp_cell h q12, kp_cell h q13, kp_cell h q14, kp_cell h q15, h⟩
theorem kp16 {b1 i1 : Nat} {v1 : Value} {b2 i2 : Nat} {v2 : Value} {b3 i3 : Nat} {v3 : Value} {b4 i4 : Nat} {v4 : Value} {b5 i5 : Nat} {v5 : Value} {b6 i6 : Nat} {v6 : Value} {b7 i7 : Nat} {v7 : Value} {b8 i8 : Nat} {v8 : Value} {b9 i9 : Nat} {v9 : Value} {b10 i10 : Nat} {v10 : Value} {b11 i11 : Nat} {v11 : Value} {b12 i12 : Nat} {v12 : Value} {b13 i13 : Nat} {v13 : Value} {b14 i14 : Nat} {v14 : Value} {b15 i15 : Nat} {v15 : Value} {b16 i16 : Nat} {v16 : Value} (h : Kp x G y) (q1 : Kc x G b1 i1 v1) (q2 : Kc x G b2 i2 v2) (q3 : Kc x G b3 i3 v3) (q4 : Kc x G b4 i4 v4) (q5 : Kc x G b5 i5 v5) (q6 : Kc x G b6 i6 v6) (q7 : Kc x G b7 i7 v7) (q8 : Kc x G b8 i8 v8) (q9 : Kc x G b9 i9 v9) (q10 : Kc x G b10 i10 v10) (q11 : Kc x G b11 i11 v11) (q12 : Kc x G b12 i12 v12) (q13 : Kc x G b13 i13 v13) (q14 : Kc x G b14 i14 v14) (q15 : Kc x G b15 i15 v15) (q16 : Kc x G b16 i16 v16) : y.cell? ⟨b1, i1, none⟩ = some v1 ∧ y.cell? ⟨b2, i2, none⟩ = some v2 ∧ y.cell? ⟨b3, i3, none⟩ = some v3 ∧ y.cell? ⟨b4, i4, none⟩ = some v4 ∧ y.cell? ⟨b5, i5, none⟩ = some v5 ∧ y.cell? ⟨b6, i6, none⟩ = some v6 ∧ y.cell? ⟨b7, i7, none⟩ = some v7 ∧ y.cell? ⟨b8, i8, none⟩ = some v8 ∧ y.cell? ⟨b9, i9, none⟩ = some v9 ∧ y.cell? ⟨b10, i10, none⟩ = some v10 ∧ y.cell? ⟨b11, i11, none⟩ = some v11 ∧ y.cell? ⟨b12, i12, none⟩ = some v12 ∧ y.cell? ⟨b13, i13, none⟩ = some v13 ∧ y.cell? ⟨b14, i14, none⟩ = some v14 ∧ y.cell? ⟨b15, i15, none⟩ = some v15 ∧ y.cell? ⟨b16, i16, none⟩ = some v16 ∧ Kp x G y := ⟨kp_cell h q1, kp_cell h q2, kp_cell h q3, kp_cell h q4, kp_cell h q5, kp_cell h q6, kp_cell h q7, kp_cell h q8, kp_cell h q9, kp_cell h q10, kp_cell h q11, kp_cell h q12, kp_cell h q13, kp_cell h q14, kp_cell h q15, kp_cell h q16, h⟩
theorem Kp.blk {b : Nat} {t : TypeId} {cs : List Value} (h : Kp x G y) (hB : Blk x b t cs) (hg : b ∉ G) : Blk y b t cs := (h.block b hB.lt hg).trans hB
theorem Kp.bs {lo hi : Nat} {A : Option Addr} {l : List Int} (h : Kp x G y) (hB : Bs x lo hi A l) (hh : hi ≤ x.heap.size) (hg : ∀ g ∈ G, g < lo ∨ hi ≤ g) : Bs y lo hi A l := hB.keep fun b o h1 h2 => World.cell?_of_block (h.block b (by omega) (fun hm => by have := hg b hm; omega))
theorem Kp.ow {lo c : Nat} {A : Option Addr} {l : List Int} (h : Kp x G y) (hO : Ow x lo A c l) (hg : ∀ g ∈ G, g < lo) : Ow y lo A c l := ⟨hO.1, own_kept hO.2 fun k hk => h.block k (hO.2.lt k hk).2 (fun hm => by have := hg k hm; have := (hO.2.lt k hk).1; omega)⟩
theorem Kp.range {b o : Nat} {cs : List Value} (h : Kp x G y) (hr : x.rangeAt b o cs) (hg : b ∉ G) : y.rangeAt b o cs := fun j v hv => kp_cell h ⟨hr j v hv, hg⟩
end
section
variable {x y : World} {G : List Nat} {b g : Nat} {t t' : TypeId} {c0 c1 c2 c3 c4 c5 v0 v1 v2 v3 v4 v5 : Value} {cs : List Value}
theorem set6_blk (h : Blk x b t [c0, c1, c2, c3, c4, c5]) : Blk ((((((x.setCell ⟨b, 0, none⟩ v0).setCell ⟨b, 1, none⟩ v1).setCell ⟨b, 2, none⟩ v2).setCell ⟨b, 3, none⟩ v3).setCell ⟨b, 4, none⟩ v4).setCell ⟨b, 5, none⟩ v5) b t [v0, v1, v2, v3, v4, v5] := (((((h.set 0 v0).set 1 v1).set 2 v2).set 3 v3).set 4 v4).set 5 v5
theorem set6_kp (h : Kp x G y) (hb : x.heap.size ≤ b) : Kp x G ((((((y.setCell ⟨b, 0, none⟩ v0).setCell ⟨b, 1, none⟩ v1).setCell ⟨b, 2, none⟩ v2).setCell ⟨b, 3, none⟩ v3).setCell ⟨b, 4, none⟩ v4).setCell ⟨b, 5, none⟩ v5) := (((((h.set (.inl hb)).set (.inl hb)).set (.inl hb)).set (.inl hb)).set (.inl hb)).set (.inl hb)
theorem set6_all (h : Blk y b t [c0, c1, c2, c3, c4, c5]) (hR : Blk y g t' cs) (hK : Kp x G y) (hb : x.heap.size ≤ b) (hne : g ≠ b) : ∃ W, (((((y.setCell ⟨b, 0, none⟩ v0).setCell ⟨b, 1, none⟩ v1).setCell ⟨b, 2, none⟩ v2).setCell ⟨b, 3, none⟩ v3).setCell ⟨b, 4, none⟩ v4).setCell ⟨b, 5, none⟩ v5 = W ∧ Blk W b t [v0, v1, v2, v3, v4, v5] ∧ Blk W g t' cs ∧ Kp x G W :=
  ⟨_, rfl, set6_blk h, ((((((hR.but (but_setCell _ b 0 v0) hne).but (but_setCell _ b 1 v1) hne).but (but_setCell _ b 2 v2) hne).but (but_setCell _ b 3 v3) hne).but (but_setCell _ b 4 v4) hne).but (but_setCell _ b 5 v5) hne), set6_kp hK hb⟩
theorem set6_but (x : World) (b : Nat) (v0 v1 v2 v3 v4 v5 : Value) : But b x ((((((x.setCell ⟨b, 0, none⟩ v0).setCell ⟨b, 1, none⟩ v1).setCell ⟨b, 2, none⟩ v2).setCell ⟨b, 3, none⟩ v3).setCell ⟨b, 4, none⟩ v4).setCell ⟨b, 5, none⟩ v5) := (((((but_setCell x b 0 v0).trans (but_setCell _ b 1 v1)).trans (but_setCell _ b 2 v2)).trans (but_setCell _ b 3 v3)).trans (but_setCell _ b 4 v4)).trans (but_setCell _ b 5 v5)
end
theorem set13_all {x y : World} {G : List Nat} {b g : Nat} {t t' : TypeId} {c0 c1 c2 c3 c4 c5 c6 c7 c8 c9 c10 c11 c12 v0 v1 v2 v3 v4 v5 v6 v7 v8 v9 v10 v11 v12 : Value} {cs : List Value} (h : Blk y b t [c0, c1, c2, c3, c4, c5, c6, c7, c8, c9, c10, c11, c12]) (hR : Blk y g t' cs) (hK : Kp x G y) (hb : x.heap.size ≤ b) (hne : g ≠ b) : ∃ W, (((((((((((((y.setCell ⟨b, 0, none⟩ v0).setCell ⟨b, 1, none⟩ v1).setCell ⟨b, 2, none⟩ v2).setCell ⟨b, 3, none⟩ v3).setCell ⟨b, 4, none⟩ v4).setCell ⟨b, 5, none⟩ v5).setCell ⟨b, 6, none⟩ v6).setCell ⟨b, 7, none⟩ v7).setCell ⟨b, 8, none⟩ v8).setCell ⟨b, 9, none⟩ v9).setCell ⟨b, 10, none⟩ v10).setCell ⟨b, 11, none⟩ v11).setCell ⟨b, 12, none⟩ v12) = W ∧ Blk W b t [v0, v1, v2, v3, v4, v5, v6, v7, v8, v9, v10, v11, v12] ∧ Blk W g t' cs ∧ Kp x G W :=
  ⟨_, rfl, (((((((((((((h.set 0 v0).set 1 v1).set 2 v2).set 3 v3).set 4 v4).set 5 v5).set 6 v6).set 7 v7).set 8 v8).set 9 v9).set 10 v10).set 11 v11).set 12 v12), (((((((((((((hR.but (but_setCell _ b 0 v0) hne).but (but_setCell _ b 1 v1) hne).but (but_setCell _ b 2 v2) hne).but (but_setCell _ b 3 v3) hne).but (but_setCell _ b 4 v4) hne).but (but_setCell _ b 5 v5) hne).but (but_setCell _ b 6 v6) hne).but (but_setCell _ b 7 v7) hne).but (but_setCell _ b 8 v8) hne).but (but_setCell _ b 9 v9) hne).but (but_setCell _ b 10 v10) hne).but (but_setCell _ b 11 v11) hne).but (but_setCell _ b 12 v12) hne), (((((((((((((hK.set (.inl hb)).set (.inl hb)).set (.inl hb)).set (.inl hb)).set (.inl hb)).set (.inl hb)).set (.inl hb)).set (.inl hb)).set (.inl hb)).set (.inl hb)).set (.inl hb)).set (.inl hb)).set (.inl hb))⟩
theorem alloc_all {x y : World} {G : List Nat} {g : Nat} {t t' : TypeId} {cs : List Value} {C : Array Value} {L : List Value} (hC : C = L.toArray) (hR : Blk y g t' cs) (hK : Kp x G y) : ∃ W, y.alloc (.cells C t) = W ∧ Blk W y.heap.size t L ∧ Blk W g t' cs ∧ Kp x G W :=
  ⟨_, rfl, Blk.new y t C L hC, hR.old, hK.alloc _⟩
theorem blk_firstD {w w' : World} {t : TypeId} {cs : List Value} (hb : Below (w.alloc (.cells cs.toArray t)).drew.heap.size (w.alloc (.cells cs.toArray t)).drew w') : Blk w' w.heap.size t cs := Blk.below (w := (w.alloc (.cells cs.toArray t)).drew) (Blk.new w t cs.toArray cs rfl) hb (by show w.heap.size < (w.alloc _).heap.size; simp)
theorem blk_firstBD {w w' : World} {g : Nat} {t : TypeId} {cs : List Value} (hb : But g (w.alloc (.cells cs.toArray t)).drew w') (hne : w.heap.size ≠ g) : Blk w' w.heap.size t cs := Blk.but (w := (w.alloc (.cells cs.toArray t)).drew) (Blk.new w t cs.toArray cs rfl) hb hne
end Go.Proofs.Ytdnmjeapihjabaa
namespace Go.Proofs.Ytdnmjeapihjabaa
open Go.RowKit
set_option linter.unusedSimpArgs false
set_option linter.unusedVariables false
set_option maxRecDepth 100000
theorem nchk_03 (l v m st po pr : Int) : nchk l v m st po pr = 0 ∨ nchk l v m st po pr = 3 := by unfold nchk; split <;> simp
theorem sizeHdr : (Try.prog.info? 133).map (·.size) = some 13 := by kernel_rfl
set_option maxRecDepth 100000 in
set_option maxHeartbeats 1000000 in
theorem valid_yes (l v m st po pr rd rp id ref org rec xmt : Int) (w : World) (h : nchk l v m st po pr = 0) : Calls Try.prog 71 #[ntp l v m st po pr rd rp id ref org rec xmt] w fun e w' => e = .returned (.bool true) ∧ Below w.heap.size w w' := by
  have hC := fun W => nchk_any l v m st po pr rd rp id ref org rec xmt W
  simp only [h] at hC
  clear h
  go_enter Try.func71, Try.ntmps71
  go_wp2_with (first | (refine wpl_box (by rfl) 133 _ (by rfl) _ ([.int .i64 l, .int .i64 v, .int .i64 m, .int .i64 st, .int .i64 po, .int .i64 pr, .int .u32 rd, .int .u32 rp, .int .u32 id, .int .u64 ref, .int .u64 org, .int .u64 rec, .int .u64 xmt]) (by rfl) rfl ?_; intro w1 P1 s1 b1) | (refine wpl_load (by rfl) 133 _ (by rfl) w.heap.size (by rfl) 133 _ P1 _ Try.underlying133 rfl _ sizeHdr (by rfl) ?_) | (go_at_call 43; ((with_reducible refine (hC _).mono ?_); rintro e w2 ⟨rfl, b2⟩)))
  go_ret
  exact ⟨rfl, b1.trans (b2.mono (by omega))⟩
set_option maxRecDepth 100000 in
set_option maxHeartbeats 1000000 in
theorem valid_no (l v m st po pr rd rp id ref org rec xmt : Int) (w : World) (h : nchk l v m st po pr = 3) : Calls Try.prog 71 #[ntp l v m st po pr rd rp id ref org rec xmt] w fun e w' => e = .returned (.bool false) ∧ Below w.heap.size w w' := by
  have hC := fun W => nchk_any l v m st po pr rd rp id ref org rec xmt W
  simp only [h] at hC
  clear h
  go_enter Try.func71, Try.ntmps71
  go_wp2_with (first | (refine wpl_box (by rfl) 133 _ (by rfl) _ ([.int .i64 l, .int .i64 v, .int .i64 m, .int .i64 st, .int .i64 po, .int .i64 pr, .int .u32 rd, .int .u32 rp, .int .u32 id, .int .u64 ref, .int .u64 org, .int .u64 rec, .int .u64 xmt]) (by rfl) rfl ?_; intro w1 P1 s1 b1) | (refine wpl_load (by rfl) 133 _ (by rfl) w.heap.size (by rfl) 133 _ P1 _ Try.underlying133 rfl _ sizeHdr (by rfl) ?_) | (go_at_call 43; ((with_reducible refine (hC _).mono ?_); rintro e w2 ⟨rfl, b2⟩)))
  go_ret
  exact ⟨rfl, b1.trans (b2.mono (by omega))⟩
set_option maxRecDepth 100000 in
theorem asks_any (l v m st po pr rd rp id ref org rec xmt : Int) (w : World) : Calls Try.prog 72 #[ntp l v m st po pr rd rp id ref org rec xmt] w fun e w' => e = .returned (.bool (m == 3)) ∧ Below w.heap.size w w' := by
  go_enter Try.func72, Try.ntmps72
  go_wp2_with (first | (refine wpl_box (by rfl) 133 _ (by rfl) _ ([.int .i64 l, .int .i64 v, .int .i64 m, .int .i64 st, .int .i64 po, .int .i64 pr, .int .u32 rd, .int .u32 rp, .int .u32 id, .int .u64 ref, .int .u64 org, .int .u64 rec, .int .u64 xmt]) (by rfl) rfl ?_; intro w1 P1 s1 b1) | (refine wpl_loadf (by rfl) 3 _ (by rfl) w.heap.size 2 (by rfl) _ _ P1 _ rfl _ Try.underlying3 rfl ?_))
  go_ret
  exact ⟨rfl, b1⟩
def rqE (K m : Int) : Int := if K = 0 then (if m = 3 then 0 else 8) else 2
theorem sizeChk : (Try.prog.info? 135).map (·.size) = some 2 := by kernel_rfl
theorem zeroChk : (Try.prog.info? 135).map (·.zero) = some (some (.agg #[.nilFunc, .int .i64 0])) := by kernel_rfl
abbrev chL : List Value := [.func (.func 71) #[] #[], .int .i64 2, .func (.func 72) #[] #[], .int .i64 8]
set_option maxHeartbeats 4000000 in
theorem checkRequest_bad (l v m st po pr rd rp id ref org rec xmt : Int) (w : World) (h : nchk l v m st po pr = 3) : Calls Try.prog 63 #[ntp l v m st po pr rd rp id ref org rec xmt] w fun e w' => e = .returned (.int .i64 2) ∧ Below w.heap.size w w' := by
  have hV := fun W => valid_no l v m st po pr rd rp id ref org rec xmt W h
  clear h
  go_enter Try.func63, Try.ntmps63
  go_wp2_with (first | (refine wpl_box (by rfl) 29 _ (by rfl) _ ([.int .i64 l, .int .i64 v, .int .i64 m, .int .i64 st, .int .i64 po, .int .i64 pr, .int .u32 rd, .int .u32 rp, .int .u32 id, .int .u64 ref, .int .u64 org, .int .u64 rec, .int .u64 xmt]) (by rfl) rfl ?_; intro w1 P1 s1 b1))
  obtain ⟨w2, hw2⟩ : ∃ w2, w2 = w1.alloc (.cells #[.func (.func 71) #[] #[], .int .i64 2, .func (.func 72) #[] #[], .int .i64 8] 135) := ⟨_, rfl⟩
  have S2 : Blk w2 w1.heap.size 135 chL := by rw [hw2]; exact Blk.new w1 _ _ _ rfl
  have b2 : Below w1.heap.size w1 w2 := by rw [hw2]; exact (Below.refl _ _).alloc (Nat.le_refl _) _
  have z2 : w1.heap.size < w2.heap.size := by rw [hw2]; simp
  rw [← hw2]
  have P2 := P1.below b2 s1
  have B2 := b1.trans (b2.mono b1.size)
  clear hw2 P1 b1 b2
  refine wp_loop_rounds 3 ?_
  rw [rounds_succ]
  go_wp2_with (first
    | (refine wpl_loadm (by rfl) 135 _ (by rfl) w1.heap.size 0 (by rfl) _ _ S2 [.func (.func 71) #[] #[], .int .i64 2] _ Try.underlying135 rfl _ sizeChk (by rfl) (by rfl) ?_)
    | (refine wpl_alloc (by rfl) 135 (by rfl) (.agg ([.nilFunc, .int .i64 0]).toArray) ([.nilFunc, .int .i64 0]) zeroChk rfl ?_; intro w3 J3 s3 b3)
    | (refine wpl_store (by rfl) 135 _ _ (by rfl) w2.heap.size (by rfl) _ (by rfl) [.func (.func 71) #[] #[], .int .i64 2] rfl 135 _ J3 (by rfl) _ sizeChk (by rfl) (by simp [Value.oneCell']) ?_; intro w4 J4 s4 g4)
    | (refine wpl_loadf (by rfl) 131 _ (by rfl) w2.heap.size 0 (by rfl) _ _ J4 _ rfl _ Try.underlying131 rfl ?_)
    | (refine wpl_load (by rfl) 29 _ (by rfl) w.heap.size (by rfl) 29 _ ((P2.below b3 (by omega)).but g4 (by omega)) _ Try.underlying29 rfl _ sizeNtp (by rfl) ?_))
  with_reducible refine (hV _).mono ?_
  rintro e' w5 ⟨rfl, bc⟩
  have Jc := J4.below bc J4.lt
  have Sc := ((S2.below b3 (by omega)).but g4 (by omega)).below bc (by omega)
  have Pc := ((P2.below b3 (by omega)).but g4 (by omega)).below bc (by omega)
  have Bc := ((B2.trans (b3.mono (by omega))).trans (g4.below (by omega) (by omega))).trans (bc.mono (by omega))
  have zc := bc.size
  clear S2 P2 B2 J3 J4 b3 g4 bc
  go_wp2_with (first | (refine wpl_loadf (by rfl) 30 _ (by rfl) w2.heap.size 1 (by rfl) _ _ Jc _ rfl _ Try.underlying30 rfl ?_))
  go_ret
  exact ⟨rfl, Bc⟩
set_option maxHeartbeats 4000000 in
theorem checkRequest_kind (l v m st po pr rd rp id ref org rec xmt : Int) (w : World) (h : nchk l v m st po pr = 0) (hm : (m == 3) = false) : Calls Try.prog 63 #[ntp l v m st po pr rd rp id ref org rec xmt] w fun e w' => e = .returned (.int .i64 8) ∧ Below w.heap.size w w' := by
  have hV := fun W => valid_yes l v m st po pr rd rp id ref org rec xmt W h
  have hA := fun W => asks_any l v m st po pr rd rp id ref org rec xmt W
  simp only [hm] at hA
  clear h
  go_enter Try.func63, Try.ntmps63
  go_wp2_with (first | (refine wpl_box (by rfl) 29 _ (by rfl) _ ([.int .i64 l, .int .i64 v, .int .i64 m, .int .i64 st, .int .i64 po, .int .i64 pr, .int .u32 rd, .int .u32 rp, .int .u32 id, .int .u64 ref, .int .u64 org, .int .u64 rec, .int .u64 xmt]) (by rfl) rfl ?_; intro w1 P1 s1 b1))
  obtain ⟨w2, hw2⟩ : ∃ w2, w2 = w1.alloc (.cells #[.func (.func 71) #[] #[], .int .i64 2, .func (.func 72) #[] #[], .int .i64 8] 135) := ⟨_, rfl⟩
  have S2 : Blk w2 w1.heap.size 135 chL := by rw [hw2]; exact Blk.new w1 _ _ _ rfl
  have b2 : Below w1.heap.size w1 w2 := by rw [hw2]; exact (Below.refl _ _).alloc (Nat.le_refl _) _
  have z2 : w1.heap.size < w2.heap.size := by rw [hw2]; simp
  rw [← hw2]
  have P2 := P1.below b2 s1
  have B2 := b1.trans (b2.mono b1.size)
  clear hw2 P1 b1 b2
  refine wp_loop_rounds 3 ?_
  rw [rounds_succ]
  go_wp2_with (first
    | (refine wpl_loadm (by rfl) 135 _ (by rfl) w1.heap.size 0 (by rfl) _ _ S2 [.func (.func 71) #[] #[], .int .i64 2] _ Try.underlying135 rfl _ sizeChk (by rfl) (by rfl) ?_)
    | (refine wpl_alloc (by rfl) 135 (by rfl) (.agg ([.nilFunc, .int .i64 0]).toArray) ([.nilFunc, .int .i64 0]) zeroChk rfl ?_; intro w3 J3 s3 b3)
    | (refine wpl_store (by rfl) 135 _ _ (by rfl) w2.heap.size (by rfl) _ (by rfl) [.func (.func 71) #[] #[], .int .i64 2] rfl 135 _ J3 (by rfl) _ sizeChk (by rfl) (by simp [Value.oneCell']) ?_; intro w4 J4 s4 g4)
    | (refine wpl_loadf (by rfl) 131 _ (by rfl) w2.heap.size 0 (by rfl) _ _ J4 _ rfl _ Try.underlying131 rfl ?_)
    | (refine wpl_load (by rfl) 29 _ (by rfl) w.heap.size (by rfl) 29 _ ((P2.below b3 (by omega)).but g4 (by omega)) _ Try.underlying29 rfl _ sizeNtp (by rfl) ?_))
  with_reducible refine (hV _).mono ?_
  rintro e' w5 ⟨rfl, bc⟩
  have Jc := J4.below bc J4.lt
  have Sc := ((S2.below b3 (by omega)).but g4 (by omega)).below bc (by omega)
  have Pc := ((P2.below b3 (by omega)).but g4 (by omega)).below bc (by omega)
  have Bc := ((B2.trans (b3.mono (by omega))).trans (g4.below (by omega) (by omega))).trans (bc.mono (by omega))
  have zc := bc.size
  clear S2 P2 B2 J3 J4 b3 g4 bc
  clear Jc
  go_wp2_with fail
  rw [rounds_succ]
  have S5 := Sc
  have P5 := Pc
  have B5 := Bc
  have z5 := zc
  clear Sc Pc Bc zc
  go_wp2_with (first
    | (refine wpl_loadm (by rfl) 135 _ (by rfl) w1.heap.size 2 (by rfl) _ _ S5 [.func (.func 72) #[] #[], .int .i64 8] _ Try.underlying135 rfl _ sizeChk (by rfl) (by rfl) ?_)
    | (refine wpl_alloc (by rfl) 135 (by rfl) (.agg ([.nilFunc, .int .i64 0]).toArray) ([.nilFunc, .int .i64 0]) zeroChk rfl ?_; intro w6 J6 s6 b6)
    | (refine wpl_store (by rfl) 135 _ _ (by rfl) w5.heap.size (by rfl) _ (by rfl) [.func (.func 72) #[] #[], .int .i64 8] rfl 135 _ J6 (by rfl) _ sizeChk (by rfl) (by simp [Value.oneCell']) ?_; intro w7 J7 s7 g7)
    | (refine wpl_loadf (by rfl) 131 _ (by rfl) w5.heap.size 0 (by rfl) _ _ J7 _ rfl _ Try.underlying131 rfl ?_)
    | (refine wpl_load (by rfl) 29 _ (by rfl) w.heap.size (by rfl) 29 _ ((P5.below b6 (by omega)).but g7 (by omega)) _ Try.underlying29 rfl _ sizeNtp (by rfl) ?_))
  with_reducible refine (hA _).mono ?_
  rintro e' w8 ⟨rfl, bc⟩
  have Jc := J7.below bc J7.lt
  have Sc := ((S5.below b6 (by omega)).but g7 (by omega)).below bc (by omega)
  have Pc := ((P5.below b6 (by omega)).but g7 (by omega)).below bc (by omega)
  have Bc := ((B5.trans (b6.mono (by omega))).trans (g7.below (by omega) (by omega))).trans (bc.mono (by omega))
  have zc := bc.size
  clear S5 P5 B5 J6 J7 b6 g7 bc
  go_wp2_with (first | (refine wpl_loadf (by rfl) 30 _ (by rfl) w5.heap.size 1 (by rfl) _ _ Jc _ rfl _ Try.underlying30 rfl ?_))
  go_ret
  exact ⟨rfl, Bc⟩
set_option maxHeartbeats 4000000 in
theorem checkRequest_ok (l v m st po pr rd rp id ref org rec xmt : Int) (w : World) (h : nchk l v m st po pr = 0) (hm : (m == 3) = true) : Calls Try.prog 63 #[ntp l v m st po pr rd rp id ref org rec xmt] w fun e w' => e = .returned (.int .i64 0) ∧ Below w.heap.size w w' := by
  have hV := fun W => valid_yes l v m st po pr rd rp id ref org rec xmt W h
  have hA := fun W => asks_any l v m st po pr rd rp id ref org rec xmt W
  simp only [hm] at hA
  clear h
  go_enter Try.func63, Try.ntmps63
  go_wp2_with (first | (refine wpl_box (by rfl) 29 _ (by rfl) _ ([.int .i64 l, .int .i64 v, .int .i64 m, .int .i64 st, .int .i64 po, .int .i64 pr, .int .u32 rd, .int .u32 rp, .int .u32 id, .int .u64 ref, .int .u64 org, .int .u64 rec, .int .u64 xmt]) (by rfl) rfl ?_; intro w1 P1 s1 b1))
  obtain ⟨w2, hw2⟩ : ∃ w2, w2 = w1.alloc (.cells #[.func (.func 71) #[] #[], .int .i64 2, .func (.func 72) #[] #[], .int .i64 8] 135) := ⟨_, rfl⟩
  have S2 : Blk w2 w1.heap.size 135 chL := by rw [hw2]; exact Blk.new w1 _ _ _ rfl
  have b2 : Below w1.heap.size w1 w2 := by rw [hw2]; exact (Below.refl _ _).alloc (Nat.le_refl _) _
  have z2 : w1.heap.size < w2.heap.size := by rw [hw2]; simp
  rw [← hw2]
  have P2 := P1.below b2 s1
  have B2 := b1.trans (b2.mono b1.size)
  clear hw2 P1 b1 b2
  refine wp_loop_rounds 3 ?_
  rw [rounds_succ]
  go_wp2_with (first
    | (refine wpl_loadm (by rfl) 135 _ (by rfl) w1.heap.size 0 (by rfl) _ _ S2 [.func (.func 71) #[] #[], .int .i64 2] _ Try.underlying135 rfl _ sizeChk (by rfl) (by rfl) ?_)
    | (refine wpl_alloc (by rfl) 135 (by rfl) (.agg ([.nilFunc, .int .i64 0]).toArray) ([.nilFunc, .int .i64 0]) zeroChk rfl ?_; intro w3 J3 s3 b3)
    | (refine wpl_store (by rfl) 135 _ _ (by rfl) w2.heap.size (by rfl) _ (by rfl) [.func (.func 71) #[] #[], .int .i64 2] rfl 135 _ J3 (by rfl) _ sizeChk (by rfl) (by simp [Value.oneCell']) ?_; intro w4 J4 s4 g4)
    | (refine wpl_loadf (by rfl) 131 _ (by rfl) w2.heap.size 0 (by rfl) _ _ J4 _ rfl _ Try.underlying131 rfl ?_)
    | (refine wpl_load (by rfl) 29 _ (by rfl) w.heap.size (by rfl) 29 _ ((P2.below b3 (by omega)).but g4 (by omega)) _ Try.underlying29 rfl _ sizeNtp (by rfl) ?_))
  with_reducible refine (hV _).mono ?_
  rintro e' w5 ⟨rfl, bc⟩
  have Jc := J4.below bc J4.lt
  have Sc := ((S2.below b3 (by omega)).but g4 (by omega)).below bc (by omega)
  have Pc := ((P2.below b3 (by omega)).but g4 (by omega)).below bc (by omega)
  have Bc := ((B2.trans (b3.mono (by omega))).trans (g4.below (by omega) (by omega))).trans (bc.mono (by omega))
  have zc := bc.size
  clear S2 P2 B2 J3 J4 b3 g4 bc
  clear Jc
  go_wp2_with fail
  rw [rounds_succ]
  have S5 := Sc
  have P5 := Pc
  have B5 := Bc
  have z5 := zc
  clear Sc Pc Bc zc
  go_wp2_with (first
    | (refine wpl_loadm (by rfl) 135 _ (by rfl) w1.heap.size 2 (by rfl) _ _ S5 [.func (.func 72) #[] #[], .int .i64 8] _ Try.underlying135 rfl _ sizeChk (by rfl) (by rfl) ?_)
    | (refine wpl_alloc (by rfl) 135 (by rfl) (.agg ([.nilFunc, .int .i64 0]).toArray) ([.nilFunc, .int .i64 0]) zeroChk rfl ?_; intro w6 J6 s6 b6)
    | (refine wpl_store (by rfl) 135 _ _ (by rfl) w5.heap.size (by rfl) _ (by rfl) [.func (.func 72) #[] #[], .int .i64 8] rfl 135 _ J6 (by rfl) _ sizeChk (by rfl) (by simp [Value.oneCell']) ?_; intro w7 J7 s7 g7)
    | (refine wpl_loadf (by rfl) 131 _ (by rfl) w5.heap.size 0 (by rfl) _ _ J7 _ rfl _ Try.underlying131 rfl ?_)
    | (refine wpl_load (by rfl) 29 _ (by rfl) w.heap.size (by rfl) 29 _ ((P5.below b6 (by omega)).but g7 (by omega)) _ Try.underlying29 rfl _ sizeNtp (by rfl) ?_))
  with_reducible refine (hA _).mono ?_
  rintro e' w8 ⟨rfl, bc⟩
  have Jc := J7.below bc J7.lt
  have Sc := ((S5.below b6 (by omega)).but g7 (by omega)).below bc (by omega)
  have Pc := ((P5.below b6 (by omega)).but g7 (by omega)).below bc (by omega)
  have Bc := ((B5.trans (b6.mono (by omega))).trans (g7.below (by omega) (by omega))).trans (bc.mono (by omega))
  have zc := bc.size
  clear S5 P5 B5 J6 J7 b6 g7 bc
  go_wp2_with fail
  rw [rounds_succ]
  go_wp2_with fail
  go_ret
  exact ⟨rfl, Bc⟩
theorem checkRequest_any (l v m st po pr rd rp id ref org rec xmt : Int) (w : World) : Calls Try.prog 63 #[ntp l v m st po pr rd rp id ref org rec xmt] w fun e w' => e = .returned (.int .i64 (rqE (nchk l v m st po pr) m)) ∧ Below w.heap.size w w' := by
  rcases nchk_03 l v m st po pr with h | h
  · by_cases hm : m = 3
    · have hE : rqE (nchk l v m st po pr) m = 0 := by unfold rqE; rw [if_pos h, if_pos hm]
      rw [hE]
      exact checkRequest_ok l v m st po pr rd rp id ref org rec xmt w h (by simpa using hm)
    · have hE : rqE (nchk l v m st po pr) m = 8 := by unfold rqE; rw [if_pos h, if_neg hm]
      rw [hE]
      exact checkRequest_kind l v m st po pr rd rp id ref org rec xmt w h (by simpa using hm)
  · have hE : rqE (nchk l v m st po pr) m = 2 := by unfold rqE; rw [if_neg (by omega)]
    rw [hE]
    exact checkRequest_bad l v m st po pr rd rp id ref org rec xmt w h
end Go.Proofs.Ytdnmjeapihjabaa
