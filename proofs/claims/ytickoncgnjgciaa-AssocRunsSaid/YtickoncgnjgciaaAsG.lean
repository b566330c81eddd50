/- What the reference's Kiss computes. -/
import Derived.Test.YtickoncgnjgciaaAsF
namespace Go.Proofs.Ytickoncgnjgciaa
open Go.RowKit
set_option linter.unusedSimpArgs false
set_option linter.unusedVariables false
theorem sb_idS (id : Int) (k : Nat) : sb (idS id) k = atB (bytesB 4 id) k := by rw [← bl_at, idS, bl_strOf (bytesB_byt 4 id)]
theorem ic_yes {id : Int} (h : ∀ k, k < 4 → 65 ≤ atB (bytesB 4 id) k ∧ atB (bytesB 4 id) k ≤ 90) : icB (idS id) = true :=
  decide_eq_true ⟨idS_size id, fun k => by rw [sb_idS]; exact h k k.2⟩
theorem ic_no {id : Int} {k : Nat} (hk : k < 4) (h : ¬(65 ≤ atB (bytesB 4 id) k ∧ atB (bytesB 4 id) k ≤ 90)) : icB (idS id) = false :=
  decide_eq_false (fun hh => h (by have := hh.2 ⟨k, hk⟩; rwa [sb_idS] at this))
set_option maxRecDepth 100000 in
set_option maxHeartbeats 4000000 in
theorem rkiss_any (l v m st po pr rd rp id ref org rec xmt : Int) (w : World) (hid : 0 ≤ id ∧ id ≤ 4294967295) :
    Calls Try.prog 37 #[ntp l v m st po pr rd rp id ref org rec xmt] w fun e w' => e = .returned (.tuple #[.string (ksS st id), .bool (ksB st id)]) ∧ Below w.heap.size w w' := by
  by_cases h0 : st = 0
  · subst h0
    have hid1 := hid.1
    have hid2 := hid.2
    go_enter Try.func37, Try.ntmps37
    go_wp2_with (first | (refine wpl_box (by rfl) 31 _ (by rfl) _ ([.int .i64 l, .int .i64 v, .int .i64 m, .int .i64 0, .int .i64 po, .int .i64 pr, .int .u32 rd, .int .u32 rp, .int .u32 id, .int .u64 ref, .int .u64 org, .int .u64 rec, .int .u64 xmt]) (by rfl) rfl ?_; intro w1 P1 s1 b1) | (refine wpl_loadf (by rfl) 3 _ (by rfl) w.heap.size 3 (by rfl) _ _ P1 _ rfl _ Try.underlying3 rfl ?_))
    go_loopw [4, 5] (fun b i wr => ∃ k : Nat, k ≤ 4 ∧ ∃ A' c', b = .slice A' k c' ∧ i = .int .i64 k ∧ Ow wr w1.heap.size A' c' ((bytesB 4 id).take k) ∧ Hid (∀ j, j < k → 65 ≤ atB (bytesB 4 id) j ∧ atB (bytesB 4 id) j ≤ 90) ∧ Below w1.heap.size w1 wr) (fun _ i _ => 4 - (intOf i).toNat)
    case atStart => exact ⟨0, by omega, none, 0, rfl, rfl, Ow.nil _ _, fun j hj => by omega, Below.refl _ _⟩
    case round =>
      obtain ⟨k, hk, A', c', rfl, rfl, hR, hall, hbr⟩ := hrel
      have hPr := P1.below hbr P1.lt
      by_cases hlt : k < 4
      · have : k = 0 ∨ k = 1 ∨ k = 2 ∨ k = 3 := by omega
        rcases this with rfl | rfl | rfl | rfl
        · skip
          have hx := (bytesB_byt 4 id).at 0
          have hv := bytesB_at 4 id 0 (by omega)
          simp only [Nat.reduceSub, Int.reducePow] at hv
          obtain ⟨X, hX⟩ : ∃ X, X = atB (bytesB 4 id) 0 := ⟨_, rfl⟩
          have hw : IntKind.u8.wrap (id / 16777216) = X := by rw [IntKind.wrap_u8, hX, hv] <;> (try omega)
          have hT : (bytesB 4 id).take (0 + 1) = (bytesB 4 id).take 0 ++ [X] := by rw [hX]; exact take_succ' _ 0 (by rw [bytesB_length]; omega)
          rw [← hX] at hx
          have hx1 := hx.1
          have hx2 := hx.2
          have hlen : ((bytesB 4 id).take 0).length = 0 := by rw [List.length_take, bytesB_length]; omega
          by_cases ha : 65 ≤ X
          · by_cases hb' : X ≤ 90
            · have hall' : Hid (∀ j, j < 0 + 1 → 65 ≤ atB (bytesB 4 id) j ∧ atB (bytesB 4 id) j ≤ 90) := fun j hj => by
                rcases Nat.lt_or_ge j 0 with h | h
                · exact hall.out j h
                · obtain rfl : j = 0 := by omega
                  rw [← hX]; exact ⟨ha, hb'⟩
              have HX := Lib.hid hX
              have HV := Lib.hid hv
              clear hX hv
              have hO3 := hR.alloc (.cells #[.int .u8 X] 5)
              have hL := Ow.lit wr [X] #[.int .u8 X] rfl (Byt.nil.cons hx1 hx2) (by simp)
              have hsz := hbr.size
              go_wp2_with (first | (refine wpl_loadf (by rfl) 29 _ (by rfl) w.heap.size 8 (by rfl) _ _ hPr _ rfl _ Try.underlying29 rfl ?_) | (at_builtin; refine wpList_append_bs rfl (.tmp 27) (.tmp 29) rfl 0 c' 1 1 (by rfl) (by rfl) hlen rfl hO3 hL.bs (by omega) (by simp <;> omega) ?_; intro A2 c2 w2 hO4 hb4 _))
              rw [← hT] at hO4
              exact ⟨⟨0 + 1, by omega, A2, c2, rfl, rfl, hO4, hall', (hbr.alloc hsz _).trans hb4⟩, by simp [intOf]⟩
            · have HB := ic_no (id := id) (k := 0) (by omega) (by rw [← hX]; omega)
              have hk0 : ksB 0 id = false := by unfold ksB; rw [HB]; rfl
              have hS : Hid (ksS 0 id = ⟨#[]⟩) := by show ksS 0 id = _; unfold ksS; rw [hk0]; rfl
              have hK := Lib.hid hk0
              have HX := Lib.hid hX
              have HV := Lib.hid hv
              have hb2 : 90 < X := by omega
              clear hX hv HB hk0 hT
              go_wp2_with (first | (refine wpl_loadf (by rfl) 29 _ (by rfl) w.heap.size 8 (by rfl) _ _ hPr _ rfl _ Try.underlying29 rfl ?_))
              go_ret2
              exact ⟨tup2 (vstr hS.out.symm) (vbool hK.out.symm), b1.trans (hbr.mono (by omega))⟩
          · have HB := ic_no (id := id) (k := 0) (by omega) (by rw [← hX]; omega)
            have hk0 : ksB 0 id = false := by unfold ksB; rw [HB]; rfl
            have hS : Hid (ksS 0 id = ⟨#[]⟩) := by show ksS 0 id = _; unfold ksS; rw [hk0]; rfl
            have hK := Lib.hid hk0
            have HX := Lib.hid hX
            have HV := Lib.hid hv
            have ha2 : X < 65 := by omega
            clear hX hv HB hk0 hT
            go_wp2_with (first | (refine wpl_loadf (by rfl) 29 _ (by rfl) w.heap.size 8 (by rfl) _ _ hPr _ rfl _ Try.underlying29 rfl ?_))
            go_ret2
            exact ⟨tup2 (vstr hS.out.symm) (vbool hK.out.symm), b1.trans (hbr.mono (by omega))⟩
        · skip
          have hx := (bytesB_byt 4 id).at 1
          have hv := bytesB_at 4 id 1 (by omega)
          simp only [Nat.reduceSub, Int.reducePow] at hv
          obtain ⟨X, hX⟩ : ∃ X, X = atB (bytesB 4 id) 1 := ⟨_, rfl⟩
          have hw : IntKind.u8.wrap (id / 65536) = X := by rw [IntKind.wrap_u8, hX, hv] <;> (try omega)
          have hT : (bytesB 4 id).take (1 + 1) = (bytesB 4 id).take 1 ++ [X] := by rw [hX]; exact take_succ' _ 1 (by rw [bytesB_length]; omega)
          rw [← hX] at hx
          have hx1 := hx.1
          have hx2 := hx.2
          have hlen : ((bytesB 4 id).take 1).length = 1 := by rw [List.length_take, bytesB_length]; omega
          by_cases ha : 65 ≤ X
          · by_cases hb' : X ≤ 90
            · have hall' : Hid (∀ j, j < 1 + 1 → 65 ≤ atB (bytesB 4 id) j ∧ atB (bytesB 4 id) j ≤ 90) := fun j hj => by
                rcases Nat.lt_or_ge j 1 with h | h
                · exact hall.out j h
                · obtain rfl : j = 1 := by omega
                  rw [← hX]; exact ⟨ha, hb'⟩
              have HX := Lib.hid hX
              have HV := Lib.hid hv
              clear hX hv
              have hO3 := hR.alloc (.cells #[.int .u8 X] 5)
              have hL := Ow.lit wr [X] #[.int .u8 X] rfl (Byt.nil.cons hx1 hx2) (by simp)
              have hsz := hbr.size
              go_wp2_with (first | (refine wpl_loadf (by rfl) 29 _ (by rfl) w.heap.size 8 (by rfl) _ _ hPr _ rfl _ Try.underlying29 rfl ?_) | (at_builtin; refine wpList_append_bs rfl (.tmp 27) (.tmp 29) rfl 1 c' 1 1 (by rfl) (by rfl) hlen rfl hO3 hL.bs (by omega) (by simp <;> omega) ?_; intro A2 c2 w2 hO4 hb4 _))
              rw [← hT] at hO4
              exact ⟨⟨1 + 1, by omega, A2, c2, rfl, rfl, hO4, hall', (hbr.alloc hsz _).trans hb4⟩, by simp [intOf]⟩
            · have HB := ic_no (id := id) (k := 1) (by omega) (by rw [← hX]; omega)
              have hk0 : ksB 0 id = false := by unfold ksB; rw [HB]; rfl
              have hS : Hid (ksS 0 id = ⟨#[]⟩) := by show ksS 0 id = _; unfold ksS; rw [hk0]; rfl
              have hK := Lib.hid hk0
              have HX := Lib.hid hX
              have HV := Lib.hid hv
              have hb2 : 90 < X := by omega
              clear hX hv HB hk0 hT
              go_wp2_with (first | (refine wpl_loadf (by rfl) 29 _ (by rfl) w.heap.size 8 (by rfl) _ _ hPr _ rfl _ Try.underlying29 rfl ?_))
              go_ret2
              exact ⟨tup2 (vstr hS.out.symm) (vbool hK.out.symm), b1.trans (hbr.mono (by omega))⟩
          · have HB := ic_no (id := id) (k := 1) (by omega) (by rw [← hX]; omega)
            have hk0 : ksB 0 id = false := by unfold ksB; rw [HB]; rfl
            have hS : Hid (ksS 0 id = ⟨#[]⟩) := by show ksS 0 id = _; unfold ksS; rw [hk0]; rfl
            have hK := Lib.hid hk0
            have HX := Lib.hid hX
            have HV := Lib.hid hv
            have ha2 : X < 65 := by omega
            clear hX hv HB hk0 hT
            go_wp2_with (first | (refine wpl_loadf (by rfl) 29 _ (by rfl) w.heap.size 8 (by rfl) _ _ hPr _ rfl _ Try.underlying29 rfl ?_))
            go_ret2
            exact ⟨tup2 (vstr hS.out.symm) (vbool hK.out.symm), b1.trans (hbr.mono (by omega))⟩
        · skip
          have hx := (bytesB_byt 4 id).at 2
          have hv := bytesB_at 4 id 2 (by omega)
          simp only [Nat.reduceSub, Int.reducePow] at hv
          obtain ⟨X, hX⟩ : ∃ X, X = atB (bytesB 4 id) 2 := ⟨_, rfl⟩
          have hw : IntKind.u8.wrap (id / 256) = X := by rw [IntKind.wrap_u8, hX, hv] <;> (try omega)
          have hT : (bytesB 4 id).take (2 + 1) = (bytesB 4 id).take 2 ++ [X] := by rw [hX]; exact take_succ' _ 2 (by rw [bytesB_length]; omega)
          rw [← hX] at hx
          have hx1 := hx.1
          have hx2 := hx.2
          have hlen : ((bytesB 4 id).take 2).length = 2 := by rw [List.length_take, bytesB_length]; omega
          by_cases ha : 65 ≤ X
          · by_cases hb' : X ≤ 90
            · have hall' : Hid (∀ j, j < 2 + 1 → 65 ≤ atB (bytesB 4 id) j ∧ atB (bytesB 4 id) j ≤ 90) := fun j hj => by
                rcases Nat.lt_or_ge j 2 with h | h
                · exact hall.out j h
                · obtain rfl : j = 2 := by omega
                  rw [← hX]; exact ⟨ha, hb'⟩
              have HX := Lib.hid hX
              have HV := Lib.hid hv
              clear hX hv
              have hO3 := hR.alloc (.cells #[.int .u8 X] 5)
              have hL := Ow.lit wr [X] #[.int .u8 X] rfl (Byt.nil.cons hx1 hx2) (by simp)
              have hsz := hbr.size
              go_wp2_with (first | (refine wpl_loadf (by rfl) 29 _ (by rfl) w.heap.size 8 (by rfl) _ _ hPr _ rfl _ Try.underlying29 rfl ?_) | (at_builtin; refine wpList_append_bs rfl (.tmp 27) (.tmp 29) rfl 2 c' 1 1 (by rfl) (by rfl) hlen rfl hO3 hL.bs (by omega) (by simp <;> omega) ?_; intro A2 c2 w2 hO4 hb4 _))
              rw [← hT] at hO4
              exact ⟨⟨2 + 1, by omega, A2, c2, rfl, rfl, hO4, hall', (hbr.alloc hsz _).trans hb4⟩, by simp [intOf]⟩
            · have HB := ic_no (id := id) (k := 2) (by omega) (by rw [← hX]; omega)
              have hk0 : ksB 0 id = false := by unfold ksB; rw [HB]; rfl
              have hS : Hid (ksS 0 id = ⟨#[]⟩) := by show ksS 0 id = _; unfold ksS; rw [hk0]; rfl
              have hK := Lib.hid hk0
              have HX := Lib.hid hX
              have HV := Lib.hid hv
              have hb2 : 90 < X := by omega
              clear hX hv HB hk0 hT
              go_wp2_with (first | (refine wpl_loadf (by rfl) 29 _ (by rfl) w.heap.size 8 (by rfl) _ _ hPr _ rfl _ Try.underlying29 rfl ?_))
              go_ret2
              exact ⟨tup2 (vstr hS.out.symm) (vbool hK.out.symm), b1.trans (hbr.mono (by omega))⟩
          · have HB := ic_no (id := id) (k := 2) (by omega) (by rw [← hX]; omega)
            have hk0 : ksB 0 id = false := by unfold ksB; rw [HB]; rfl
            have hS : Hid (ksS 0 id = ⟨#[]⟩) := by show ksS 0 id = _; unfold ksS; rw [hk0]; rfl
            have hK := Lib.hid hk0
            have HX := Lib.hid hX
            have HV := Lib.hid hv
            have ha2 : X < 65 := by omega
            clear hX hv HB hk0 hT
            go_wp2_with (first | (refine wpl_loadf (by rfl) 29 _ (by rfl) w.heap.size 8 (by rfl) _ _ hPr _ rfl _ Try.underlying29 rfl ?_))
            go_ret2
            exact ⟨tup2 (vstr hS.out.symm) (vbool hK.out.symm), b1.trans (hbr.mono (by omega))⟩
        · skip
          have hx := (bytesB_byt 4 id).at 3
          have hv := bytesB_at 4 id 3 (by omega)
          simp only [Nat.reduceSub, Int.reducePow] at hv
          obtain ⟨X, hX⟩ : ∃ X, X = atB (bytesB 4 id) 3 := ⟨_, rfl⟩
          have hw : IntKind.u8.wrap (id) = X := by rw [IntKind.wrap_u8, hX, hv] <;> (try omega)
          have hT : (bytesB 4 id).take (3 + 1) = (bytesB 4 id).take 3 ++ [X] := by rw [hX]; exact take_succ' _ 3 (by rw [bytesB_length]; omega)
          rw [← hX] at hx
          have hx1 := hx.1
          have hx2 := hx.2
          have hlen : ((bytesB 4 id).take 3).length = 3 := by rw [List.length_take, bytesB_length]; omega
          by_cases ha : 65 ≤ X
          · by_cases hb' : X ≤ 90
            · have hall' : Hid (∀ j, j < 3 + 1 → 65 ≤ atB (bytesB 4 id) j ∧ atB (bytesB 4 id) j ≤ 90) := fun j hj => by
                rcases Nat.lt_or_ge j 3 with h | h
                · exact hall.out j h
                · obtain rfl : j = 3 := by omega
                  rw [← hX]; exact ⟨ha, hb'⟩
              have HX := Lib.hid hX
              have HV := Lib.hid hv
              clear hX hv
              have hO3 := hR.alloc (.cells #[.int .u8 X] 5)
              have hL := Ow.lit wr [X] #[.int .u8 X] rfl (Byt.nil.cons hx1 hx2) (by simp)
              have hsz := hbr.size
              go_wp2_with (first | (refine wpl_loadf (by rfl) 29 _ (by rfl) w.heap.size 8 (by rfl) _ _ hPr _ rfl _ Try.underlying29 rfl ?_) | (at_builtin; refine wpList_append_bs rfl (.tmp 27) (.tmp 29) rfl 3 c' 1 1 (by rfl) (by rfl) hlen rfl hO3 hL.bs (by omega) (by simp <;> omega) ?_; intro A2 c2 w2 hO4 hb4 _))
              rw [← hT] at hO4
              exact ⟨⟨3 + 1, by omega, A2, c2, rfl, rfl, hO4, hall', (hbr.alloc hsz _).trans hb4⟩, by simp [intOf]⟩
            · have HB := ic_no (id := id) (k := 3) (by omega) (by rw [← hX]; omega)
              have hk0 : ksB 0 id = false := by unfold ksB; rw [HB]; rfl
              have hS : Hid (ksS 0 id = ⟨#[]⟩) := by show ksS 0 id = _; unfold ksS; rw [hk0]; rfl
              have hK := Lib.hid hk0
              have HX := Lib.hid hX
              have HV := Lib.hid hv
              have hb2 : 90 < X := by omega
              clear hX hv HB hk0 hT
              go_wp2_with (first | (refine wpl_loadf (by rfl) 29 _ (by rfl) w.heap.size 8 (by rfl) _ _ hPr _ rfl _ Try.underlying29 rfl ?_))
              go_ret2
              exact ⟨tup2 (vstr hS.out.symm) (vbool hK.out.symm), b1.trans (hbr.mono (by omega))⟩
          · have HB := ic_no (id := id) (k := 3) (by omega) (by rw [← hX]; omega)
            have hk0 : ksB 0 id = false := by unfold ksB; rw [HB]; rfl
            have hS : Hid (ksS 0 id = ⟨#[]⟩) := by show ksS 0 id = _; unfold ksS; rw [hk0]; rfl
            have hK := Lib.hid hk0
            have HX := Lib.hid hX
            have HV := Lib.hid hv
            have ha2 : X < 65 := by omega
            clear hX hv HB hk0 hT
            go_wp2_with (first | (refine wpl_loadf (by rfl) 29 _ (by rfl) w.heap.size 8 (by rfl) _ _ hPr _ rfl _ Try.underlying29 rfl ?_))
            go_ret2
            exact ⟨tup2 (vstr hS.out.symm) (vbool hK.out.symm), b1.trans (hbr.mono (by omega))⟩
      · obtain rfl : k = 4 := by omega
        have HB := ic_yes (id := id) hall.out
        have hk0 : ksB 0 id = true := by unfold ksB; rw [HB]; rfl
        have hS : Hid (ksS 0 id = idS id) := by show ksS 0 id = _; unfold ksS; rw [hk0]; rfl
        have hK := Lib.hid hk0
        rw [List.take_of_length_le (by rw [bytesB_length]; omega)] at hR
        have hv := strOf_conv (bytesB_length 4 id) hR.bs (by omega) (c := c')
        rw [show strOf (bytesB 4 id) = idS id from rfl] at hv
        clear HB hk0
        go_wp2
        go_ret2
        exact ⟨tup2 (vstr hS.out.symm) (vbool hK.out.symm), b1.trans (hbr.mono (by omega))⟩
  · have hne : (st != 0) = true := by simpa using h0
    have hk : ksB st id = false := by simp [ksB, h0]
    have hS : Hid (ksS st id = ⟨#[]⟩) := by show ksS st id = _; unfold ksS; rw [hk]; rfl
    have hK := Lib.hid hk
    clear hk h0
    go_enter Try.func37, Try.ntmps37
    go_wp2_with (first | (refine wpl_box (by rfl) 31 _ (by rfl) _ ([.int .i64 l, .int .i64 v, .int .i64 m, .int .i64 st, .int .i64 po, .int .i64 pr, .int .u32 rd, .int .u32 rp, .int .u32 id, .int .u64 ref, .int .u64 org, .int .u64 rec, .int .u64 xmt]) (by rfl) rfl ?_; intro w1 P1 s1 b1) | (refine wpl_loadf (by rfl) 3 _ (by rfl) w.heap.size 3 (by rfl) _ _ P1 _ rfl _ Try.underlying3 rfl ?_))
    go_ret2
    exact ⟨tup2 (vstr hS.out.symm) (vbool hK.out.symm), b1⟩
end Go.Proofs.Ytickoncgnjgciaa
