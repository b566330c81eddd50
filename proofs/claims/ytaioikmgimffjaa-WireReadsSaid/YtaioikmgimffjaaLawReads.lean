/- WireReads (P2.3, P2.4): for every input the law returns true, and its arguments read afterwards as before. No condition. -/
import Derived.Test.YtaioikmgimffjaaWireAwake
import Derived.Test.YtaioikmgimffjaaRReader
import Derived.Test.YtaioikmgimffjaaOpen
import Derived.Test.YtaioikmgimffjaaCalls
namespace Go.Proofs.Ytaioikmgimffjaa
open Go.ChangeShapes Go.WideShapes Go.ChangeAt Go.RowKit Go.Joins
set_option linter.unusedSimpArgs false
set_option linter.unusedVariables false
theorem readsLaw_long (A : Option Addr) (c : Nat) (l : List Int) (P : Value) (w : World) (hl : 5000 < l.length) (hl2 : l.length ≤ 140737488351232) :
    Calls Try.prog 6 #[.slice A l.length c, P] w fun e w' => e = .returned (.bool true) ∧ Below w.heap.size w w' := by
  have hl' : (5000 : Int) < l.length := by omega
  have B0 : Below w.heap.size w w := Below.refl _ _
  go_enter Try.func6, Try.ntmps6
  go_wp2_with fail
  refine (awake_any _).mono ?_
  rintro e w1 ⟨rfl, hb⟩
  have B1 := (B0).trans (hb.mono (B0).size)
  clear hb
  go_wp2
  go_ret
  exact ⟨rfl, B1⟩
theorem tkR_len (l : List Int) (e n : Int) (v : Bool) : (tkR l e n v).length ≤ l.length := by unfold tkR; split <;> simp
theorem drew_but {g : Nat} {w w' : World} (h : But g w.drew w') : But g w w' := ⟨h.os, h.tape, h.output, h.size, h.block⟩
/-- both readers stand alike -/
def Both (w : World) (lo g lo' g' : Nat) (l : List Int) (e : Int) : Prop := Rd w lo g l e ∧ Rd w lo' g' l e ∧ l.length ≤ 5000
set_option maxRecDepth 100000 in
set_option maxHeartbeats 2000000 in
theorem readsLaw_short (A B : Option Addr) (c nc cc : Nat) (l : List Int) (X Y : Nat → Int) (w : World) (h : Bs w 0 w.heap.size A l) (hlc : l.length ≤ c) (hc63 : c ≤ 140737488351232) (hl : l.length ≤ 5000)
    (hP : Pr w 0 w.heap.size B nc X Y) (hncc : nc ≤ cc) (hcc : cc ≤ 9223372036854775807) :
    Calls Try.prog 6 #[.slice A l.length c, .slice B nc cc] w fun e w' => e = .returned (.bool true) ∧ Below w.heap.size w w' := by
  have hl' : (l.length : Int) ≤ 5000 := by omega
  go_enter Try.func6, Try.ntmps6
  go_wp2_with fail
  have hE := newReader_any A l.length c 0 w.heap.size l w rfl h (Nat.le_refl _) (by omega)
  with_reducible refine hE.mono ?_
  rintro e w1 ⟨g, rfl, hR1, hgz, B1⟩
  have hlo : w.heap.size ≤ g := by obtain ⟨_, _, _, _, _, _, _, _, h, _⟩ := hR1; omega
  have hg1 := hR1.lt
  have z1 := B1.size
  clear hE hgz
  have hE := rnewReader_any A l.length c 0 w.heap.size l w1 rfl (h.below B1 (Nat.le_refl _)) z1 (by omega)
  go_wp2_with fail
  with_reducible refine hE.mono ?_
  rintro e w2 ⟨g', rfl, hS2, hgz, hb2⟩
  have hlo' : w1.heap.size ≤ g' := by obtain ⟨_, _, _, _, _, _, _, _, h, _⟩ := hS2; omega
  have hR2 := hR1.below hb2 hg1
  have B2 := B1.trans (hb2.mono z1)
  have hg2 := hS2.lt
  clear hE hgz hR1 B1 hb2
  have hE1 := left_any _ g l 0 w2 hR2
  have hE2 := err_any _ g l 0 w2 hR2
  go_wp2_with (first | (go_at_call 18; ((with_reducible refine (hE1).mono ?_); rintro e w1 ⟨rfl, rfl⟩)) | (go_at_call 19; ((with_reducible refine (hE2).mono ?_); rintro e w1 ⟨rfl, rfl⟩)) | (go_at_call 24; ((with_reducible refine (first_any B nc cc _ hncc hcc).mono ?_); rintro e w1 ⟨rfl, rfl⟩)))
  clear hE1 hE2
  have hBoth : Both w2 w.heap.size g w1.heap.size g' l 0 := ⟨hR2, hS2, hl⟩
  have hgg : g < g' := by omega
  have hggl : g < w1.heap.size := hg1
  clear hR2 hS2 hg2 hg1 h hl hl'
  go_loopw [35] (fun i wr => ∃ k : Nat, k ≤ min nc 200 ∧ i = .int .i64 k ∧ ∃ m e, Both wr w.heap.size g w1.heap.size g' m e ∧ Below w.heap.size w wr) (fun i _ => min nc 200 - (intOf i).toNat)
  case atStart => exact ⟨0, by omega, rfl, l, 0, hBoth, B2⟩
  case round =>
    obtain ⟨k, hk, rfl, m, e, ⟨hR, hS, hm⟩, hB⟩ := hrel
    clear hBoth B2
    have hgr := hR.lt
    have hgs := hS.lt
    have hzr := hB.size
    by_cases hlt : k < min nc 200
    · obtain ⟨b, o, rfl, _, hb, hc⟩ := ((hP.below hB (Nat.le_refl _)).less (show min nc 200 ≤ nc by omega)) (by omega)
      obtain ⟨hcX, hcY, _, _⟩ := hc k hlt
      have hltI : (k : Int) < ((min nc 200 : Nat) : Int) := by omega
      have hnew := heap_alloc_new wr (.cells #[.int .i64 (X k), .int .i64 (Y k)] 47)
      have hba : Below wr.heap.size wr (wr.alloc (.cells #[.int .i64 (X k), .int .i64 (Y k)] 47)) := (Below.refl wr.heap.size wr).alloc (Nat.le_refl _) _
      have hR0 := hR.below hba hgr
      have hS0 := hS.below hba hgs
      have hqx : (wr.alloc (.cells #[.int .i64 (X k), .int .i64 (Y k)] 47)).cell? ⟨wr.heap.size, 0, none⟩ = some (.int .i64 (X k)) := cell_of_row _ _ 0 _ _ _ hnew
      have hq0 : (wr.alloc (.cells #[.int .i64 (X k), .int .i64 (Y k)] 47)).cell? ⟨wr.heap.size, 1, none⟩ = some (.int .i64 (Y k)) := cell_of_row _ _ 1 _ _ _ hnew
      have hB0 := hB.alloc hzr (.cells #[.int .i64 (X k), .int .i64 (Y k)] 47)
      have hz0 : wr.heap.size < (wr.alloc (.cells #[.int .i64 (X k), .int .i64 (Y k)] 47)).heap.size := by simp
      have hgne : some wr.heap.size ≠ some g := by simp; omega
      have hgne' : some wr.heap.size ≠ some g' := by simp; omega
      obtain ⟨w0, hw0⟩ : ∃ w0, w0 = wr.alloc (.cells #[.int .i64 (X k), .int .i64 (Y k)] 47) := ⟨_, rfl⟩
      rw [← hw0] at hR0 hS0 hqx hq0 hB0 hz0
      have hw0' := hw0.symm
      clear hnew hc hw0 hba
      rcases (show X k = 0 ∨ X k = 1 ∨ X k = 2 ∨ X k = 3 ∨ (X k ≠ 0 ∧ X k ≠ 1 ∧ X k ≠ 2 ∧ X k ≠ 3) by omega) with x0 | x0 | x0 | x0 | x0
      · have d0 : (X k == 0) = true := by simp [x0]
        clear x0
        have hE1 := uint_any _ g m e (Y k) w0.drew hR0
        go_wp2_with fail
        go_region_held3 (fun w' => w'.cell? ⟨wr.heap.size, 1, none⟩ = some (.int .i64 (Y k)) ∧ Below w.heap.size w w') (refine ⟨?_, ?_⟩ <;> first | assumption | exact Below.drew (by assumption) | exact drew_cell (by assumption)) (first
          | (go_at_call 17; ((with_reducible refine hE1.mono ?_); rintro e1 w5 ⟨rfl, hR5, hg5, s5⟩; (have hg5' := drew_but hg5); (have hq5 := hg5'.cell hq0 hgne); (have B5 := hB0.trans (but_below hg5' hB0.size hlo)); (have hS5 := hS0.grown hg5' (by simp; omega)); (have s5' : w0.heap.size ≤ w5.heap.size := s5); (have hE2 := ruint_any _ g' m e (Y k) w5 hS5 (by omega))))
          | (go_at_call 25; ((with_reducible refine hE2.mono ?_); rintro e1 w6 ⟨rfl, hS6, hg6, s6⟩; (have hq6 := hg6.cell hq5 hgne'); (have B6 := B5.trans (but_below hg6 B5.size (by omega))); (have hR6 := hR5.grown hg6 (by simp; omega)); (have hE3 := left_any _ g _ _ w6 hR6); (have hE4 := rleft_any _ g' _ _ w6 hS6); (have hE5 := err_any _ g _ _ w6 hR6); (have hE6 := rerr_any _ g' _ _ w6 hS6))))
        go_split_ands
        clear hw0' hE1 hE2 hq0 hq5 hq6 hqx hcX hcY hR5 hS5 hB0 B5
        go_wp2_with (first | (go_at_call 18; ((with_reducible refine (hE3).mono ?_); rintro e w1 ⟨rfl, rfl⟩)) | (go_at_call 31; ((with_reducible refine (hE4).mono ?_); rintro e w1 ⟨rfl, rfl⟩)) | (go_at_call 19; ((with_reducible refine (hE5).mono ?_); rintro e w1 ⟨rfl, rfl⟩)) | (go_at_call 32; ((with_reducible refine (hE6).mono ?_); rintro e w1 ⟨rfl, rfl⟩)))
        all_goals skip
        exact ⟨⟨k + 1, by omega, by go_num, _, _, ⟨hR6, hS6, by have := tkR_len m e (Y k) (szB (Y k)); omega⟩, B6⟩, by simp [intOf]; omega⟩
      · have d0 : (X k == 0) = false := by simp [x0]
        have d1 : (X k == 1) = true := by simp [x0]
        clear x0
        have hE1 := int_any _ g m e (Y k) w0.drew hR0
        go_wp2_with fail
        go_region_held3 (fun w' => w'.cell? ⟨wr.heap.size, 1, none⟩ = some (.int .i64 (Y k)) ∧ Below w.heap.size w w') (refine ⟨?_, ?_⟩ <;> first | assumption | exact Below.drew (by assumption) | exact drew_cell (by assumption)) (first
          | (go_at_call 16; ((with_reducible refine hE1.mono ?_); rintro e1 w5 ⟨rfl, hR5, hg5, s5⟩; (have hg5' := drew_but hg5); (have hq5 := hg5'.cell hq0 hgne); (have B5 := hB0.trans (but_below hg5' hB0.size hlo)); (have hS5 := hS0.grown hg5' (by simp; omega)); (have s5' : w0.heap.size ≤ w5.heap.size := s5); (have hE2 := rint_any _ g' m e (Y k) w5 hS5 (by omega))))
          | (go_at_call 26; ((with_reducible refine hE2.mono ?_); rintro e1 w6 ⟨rfl, hS6, hg6, s6⟩; (have hq6 := hg6.cell hq5 hgne'); (have B6 := B5.trans (but_below hg6 B5.size (by omega))); (have hR6 := hR5.grown hg6 (by simp; omega)); (have hE3 := left_any _ g _ _ w6 hR6); (have hE4 := rleft_any _ g' _ _ w6 hS6); (have hE5 := err_any _ g _ _ w6 hR6); (have hE6 := rerr_any _ g' _ _ w6 hS6))))
        go_split_ands
        clear hw0' hE1 hE2 hq0 hq5 hq6 hqx hcX hcY hR5 hS5 hB0 B5
        go_wp2_with (first | (go_at_call 18; ((with_reducible refine (hE3).mono ?_); rintro e w1 ⟨rfl, rfl⟩)) | (go_at_call 31; ((with_reducible refine (hE4).mono ?_); rintro e w1 ⟨rfl, rfl⟩)) | (go_at_call 19; ((with_reducible refine (hE5).mono ?_); rintro e w1 ⟨rfl, rfl⟩)) | (go_at_call 32; ((with_reducible refine (hE6).mono ?_); rintro e w1 ⟨rfl, rfl⟩)))
        all_goals skip
        exact ⟨⟨k + 1, by omega, by go_num, _, _, ⟨hR6, hS6, by have := tkR_len m e (Y k) (szB (Y k)); omega⟩, B6⟩, by simp [intOf]; omega⟩
      · have d0 : (X k == 0) = false := by simp [x0]
        have d1 : (X k == 1) = false := by simp [x0]
        have d2 : (X k == 2) = true := by simp [x0]
        clear x0
        have hE1 := bytes_any _ g m e (Y k) w0.drew hR0 (by omega)
        have hTl := tkL_len m e (Y k) (nnB (Y k))
        go_wp2_with fail
        go_region_held3 (fun w' => w'.cell? ⟨wr.heap.size, 1, none⟩ = some (.int .i64 (Y k)) ∧ Below w.heap.size w w') (refine ⟨?_, ?_⟩ <;> first | assumption | exact Below.drew (by assumption) | exact drew_cell (by assumption)) (first
          | (go_at_call 27; ((with_reducible refine hE1.mono ?_); rintro e1 w5 ⟨A5, c5, rfl, hO5, hR5, hg5, s5⟩; (have hg5' := drew_but hg5); (have hq5 := hg5'.cell hq0 hgne); (have B5 := hB0.trans (but_below hg5' hB0.size hlo)); (have hS5 := hS0.grown hg5' (by simp; omega)); (have s5' : w0.heap.size ≤ w5.heap.size := s5); (have hO5' : Ow w5 w0.heap.size A5 c5 (tkL m e (Y k) (nnB (Y k))) := hO5); (have hS0lt := hS0.lt); (have hE2 := rbytes_any _ g' m e (Y k) w5 hS5 (by omega))))
          | (go_at_call 28; ((with_reducible refine hE2.mono ?_); rintro e1 w6 ⟨A6, c6, rfl, hO6, hS6, hg6, s6⟩; (have hq6 := hg6.cell hq5 hgne'); (have B6 := B5.trans (but_below hg6 B5.size (by omega))); (have hR6 := hR5.grown hg6 (by simp; omega)); (have hb5 : Bs w6 w0.heap.size w5.heap.size A5 (tkL m e (Y k) (nnB (Y k))) := hO5'.bs.grown hg6 (Nat.le_refl _) (by intro r hr; (have hr' : g' = r := by simpa using hr); omega)); (have hE7 := equal_any A5 A6 (tkL m e (Y k) (nnB (Y k))).length (tkL m e (Y k) (nnB (Y k))).length c5 c6 _ _ _ _ _ _ w6 rfl rfl hb5 hO6.bs (by omega) (Nat.le_refl _) (by omega) (by omega)); rw [eqB_self] at hE7))
          | (go_at_call 22; ((with_reducible refine hE7.mono ?_); rintro e1 w7 ⟨rfl, hb7⟩; (have hq7 := kept_cell hb7 hq6 (by show wr.heap.size < _; omega)); (have B7 := B6.trans (hb7.mono B6.size)); (have hR7 := hR6.below hb7 hR6.lt); (have hS7 := hS6.below hb7 hS6.lt); (have hE3 := left_any _ g _ _ w7 hR7); (have hE4 := rleft_any _ g' _ _ w7 hS7); (have hE5 := err_any _ g _ _ w7 hR7); (have hE6 := rerr_any _ g' _ _ w7 hS7))))
        go_split_ands
        clear hw0' hE1 hE2 hE7 hq0 hq5 hq6 hq7 hqx hcX hcY hR5 hS5 hB0 B5 hR6 hS6 B6 hO5 hO5' hO6 hb5
        go_wp2_with (first | (go_at_call 18; ((with_reducible refine (hE3).mono ?_); rintro e w1 ⟨rfl, rfl⟩)) | (go_at_call 31; ((with_reducible refine (hE4).mono ?_); rintro e w1 ⟨rfl, rfl⟩)) | (go_at_call 19; ((with_reducible refine (hE5).mono ?_); rintro e w1 ⟨rfl, rfl⟩)) | (go_at_call 32; ((with_reducible refine (hE6).mono ?_); rintro e w1 ⟨rfl, rfl⟩)))
        exact ⟨⟨k + 1, by omega, by go_num, _, _, ⟨hR7, hS7, by have := tkR_len m e (Y k) (nnB (Y k)); omega⟩, B7⟩, by simp [intOf]; omega⟩
      · have d0 : (X k == 0) = false := by simp [x0]
        have d1 : (X k == 1) = false := by simp [x0]
        have d2 : (X k == 2) = false := by simp [x0]
        have d3 : (X k == 3) = true := by simp [x0]
        clear x0
        have hE1 := skip_any _ g m e (Y k) w0 hR0
        go_wp2_with fail
        with_reducible refine hE1.mono ?_
        rintro e1 w5 ⟨rfl, hR5, hg5, s5⟩
        have hq5 := hg5.cell hq0 hgne
        have B5 := hB0.trans (but_below hg5 hB0.size hlo)
        have hS5 := hS0.grown hg5 (by simp; omega)
        have hE2 := rskip_any _ g' m e (Y k) w5 hS5 (by omega)
        clear hE1
        go_wp2_with fail
        with_reducible refine hE2.mono ?_
        rintro e1 w6 ⟨rfl, hS6, hg6, s6⟩
        have B6 := B5.trans (but_below hg6 B5.size (by omega))
        have hR6 := hR5.grown hg6 (by simp; omega)
        have hE3 := left_any _ g _ _ w6 hR6
        have hE4 := rleft_any _ g' _ _ w6 hS6
        have hE5 := err_any _ g _ _ w6 hR6
        have hE6 := rerr_any _ g' _ _ w6 hS6
        clear hw0' hE2 hq0 hq5 hqx hcX hcY hR5 hS5 hB0 B5
        go_wp2_with (first | (go_at_call 18; ((with_reducible refine (hE3).mono ?_); rintro e w1 ⟨rfl, rfl⟩)) | (go_at_call 31; ((with_reducible refine (hE4).mono ?_); rintro e w1 ⟨rfl, rfl⟩)) | (go_at_call 19; ((with_reducible refine (hE5).mono ?_); rintro e w1 ⟨rfl, rfl⟩)) | (go_at_call 32; ((with_reducible refine (hE6).mono ?_); rintro e w1 ⟨rfl, rfl⟩)))
        exact ⟨⟨k + 1, by omega, by go_num, _, _, ⟨hR6, hS6, by have := tkR_len m e (Y k) (nnB (Y k)); omega⟩, B6⟩, by simp [intOf]; omega⟩
      · have d0 : (X k == 0) = false := by simp [x0.1]
        have d1 : (X k == 1) = false := by simp [x0.2.1]
        have d2 : (X k == 2) = false := by simp [x0.2.2.1]
        have d3 : (X k == 3) = false := by simp [x0.2.2.2]
        clear x0
        have hE3 := left_any _ g _ _ w0 hR0
        have hE4 := rleft_any _ g' _ _ w0 hS0
        have hE5 := err_any _ g _ _ w0 hR0
        have hE6 := rerr_any _ g' _ _ w0 hS0
        go_wp2_with (first | (go_at_call 18; ((with_reducible refine (hE3).mono ?_); rintro e w1 ⟨rfl, rfl⟩)) | (go_at_call 31; ((with_reducible refine (hE4).mono ?_); rintro e w1 ⟨rfl, rfl⟩)) | (go_at_call 19; ((with_reducible refine (hE5).mono ?_); rintro e w1 ⟨rfl, rfl⟩)) | (go_at_call 32; ((with_reducible refine (hE6).mono ?_); rintro e w1 ⟨rfl, rfl⟩)))
        exact ⟨⟨k + 1, by omega, by go_num, _, _, ⟨hR0, hS0, hm⟩, hB0⟩, by simp [intOf]; omega⟩
    · obtain rfl : k = min nc 200 := by omega
      have hE := awake_any wr
      go_wp2_with fail
      with_reducible refine hE.mono ?_
      rintro e w9 ⟨rfl, hb9⟩
      have B9 := hB.trans (hb9.mono hzr)
      go_wp2
      go_ret
      exact ⟨rfl, B9⟩
theorem readsLaw (A B : Option Addr) (c nc cc : Nat) (l : List Int) (X Y : Nat → Int) (w : World) (h : Bs w 0 w.heap.size A l) (hlc : l.length ≤ c) (hc63 : c ≤ 140737488351232)
    (hP : Pr w 0 w.heap.size B nc X Y) (hncc : nc ≤ cc) (hcc : cc ≤ 9223372036854775807) :
    Calls Try.prog 6 #[.slice A l.length c, .slice B nc cc] w fun e w' => e = .returned (.bool true) ∧ Below w.heap.size w w' := by
  rcases Nat.lt_or_ge 5000 l.length with hl | hl
  · exact readsLaw_long A c l _ w hl (by omega)
  · exact readsLaw_short A B c nc cc l X Y w h hlc hc63 hl hP hncc hcc
namespace lawReads
set_option maxRecDepth 100000 in
theorem lifted (os : Os) (started : os.Started) (H : Type) (enc : TypeId × Value → H) :
    ReturnsInHanded {} Try.checked os 6 .any (Rows.wireReadsSpec.pre6 enc Try.prog Try.f6 Rows.wireReadsRow.domain false) (Rows.wireReadsSpec.post enc Try.prog Try.f6 false true false false) := by
  refine returnsInHanded_of_change_sized (C := Try.checked) own started (by kernel_rfl) Try.func6
    (ChangeSpec.witness6 (enc := enc) (C := Try.checked) false ⟨#[], #[.slice none 0 0, .slice none 0 0], []⟩ 8 (by kernel_rfl) (by kernel_rfl) (by kernel_rfl) (by kernel_rfl)) ?_
  intro W base args ds gs before hval0 hW hcnd hsz0 _
  have hval : ∀ (j : Nat) t v, Try.f6.params[j]? = some t → args[j]? = some v → Value.okWide Try.prog W .any base t v := hval0
  have hW' := hW
  obtain ⟨p, q, hA0, hV, rfl, hfz, hnd⟩ := hW
  have hA : DataW.TrodAll enc Try.prog W 0 (fun _ => true) true Try.f6.params.toList args.toList ds p := hA0
  have hsz : (DataW.weightsEach Try.prog (Try.f6.params.toList ++ Rows.wireReadsSpec.plain.varTypes Try.prog) (ds ++ gs)).all (· ≤ reachBytes) = true := hsz0
  rw [Try.params6] at hA hval hsz
  obtain ⟨rfl, rfl⟩ := trodVars_none hV
  obtain ⟨v0, v1, d0, d1, p0, p1, rfl, rfl, rfl, h0, h1⟩ := trodAll_two hA
  obtain ⟨B, nc, cc, X, Y, rfl, hP, hncc, hcc⟩ := open_calls (hval 1 42 v1 rfl rfl) h1
  obtain ⟨A, m, c, l, rfl, hn_l, hB_l, hc_l, hnil_l, hs_l⟩ := open_bs (hval 0 22 v0 rfl rfl) h0
  have hr_l := hs_l hsz (j := 0) rfl rfl
  subst hn_l
  refine (readsLaw A B c nc cc l X Y W hB_l hc_l hr_l hP hncc hcc).mono fun e W' ⟨he, hb⟩ => ?_
  subst he
  revert hb
  simp only [List.append_nil] at hW'
  intro hb
  exact ⟨_, rfl, law_post (tb := 4) laidOut Try.underlying4 rfl (by rw [Try.params6]; intro t ht; revert ht; revert t; exact of_decide_eq_true (by kernel_rfl)) rfl rfl rfl rfl hW' hb⟩
theorem over : Rows.wireReadsRow.holds Try.pinned (OpenSpec.ofChange Rows.wireReadsSpec) :=
  OpenClaim.holds_of_wide 6 Try.f6 rfl rfl rfl rfl rfl rfl rfl ⟨rfl, rfl, rfl, rfl, rfl⟩ rfl rfl rfl rfl rfl (by kernel_rfl) Try.func6 (by kernel_rfl)
    (of_decide_eq_true (by kernel_rfl)) (by unfold Func.isWrapper; first | (rw [if_pos (by decide +kernel)]; kernel_rfl) | (rw [if_neg (by decide +kernel)]; exact ⟨rfl, rfl⟩))
    (fun os started H enc _ => lifted os started H enc)
theorem proved : Rows.WireReadsSaid :=
  over
#print axioms proved
end lawReads
end Go.Proofs.Ytaioikmgimffjaa
