/- What ntpmsg.Kiss computes. -/
import Derived.Test.YtjclifjipphnkaaNtp3
import Derived.Test.YtjclifjipphnkaaBlk
namespace Go.Proofs.Ytjclifjipphnkaa
open Go.RowKit
set_option linter.unusedSimpArgs false
set_option linter.unusedVariables false
set_option maxRecDepth 100000
/-- the text of a reference id -/
def idS (id : Int) : ByteArray := strOf (bytesB 4 id)
def ksB (st id : Int) : Bool := decide (st = 0) && icB (idS id)
def ksS (st id : Int) : ByteArray := if ksB st id then idS id else ⟨#[]⟩
theorem idS_size (id : Int) : (idS id).size = 4 := by
  rw [← bl_len, idS, bl_strOf (bytesB_byt 4 id), bytesB_length]
set_option maxHeartbeats 2000000 in
theorem kiss_any (l v m st po pr rd rp id ref org rec xmt : Int) (w : World) (hid : 0 ≤ id ∧ id ≤ 4294967295) :
    Calls Try.prog 16 #[ntp l v m st po pr rd rp id ref org rec xmt] w fun e w' => e = .returned (.tuple #[.string (ksS st id), .bool (ksB st id)]) ∧ Below w.heap.size w w' := by
  by_cases h0 : st = 0
  · subst h0
    have hw : IntKind.u64.wrap id = id := by rw [IntKind.wrap_u64]; omega
    have hsz := idS_size id
    have hi := fun W => isCode_any (idS id) W (by omega)
    have hsz' := Lib.hid hsz
    clear hsz
    have hf : Fits [(id, 4)] := by
      intro p hp
      simp only [List.mem_cons, List.not_mem_nil, or_false] at hp
      subst hp; simp; omega
    have he : encB [(id, 4)] = bytesB 4 id := by simp [encB]
    cases hc : icB (idS id) with
    | false =>
      have hk : ksB 0 id = false := by simp [ksB, hc]
      have hS : Hid (ksS 0 id = ⟨#[]⟩) := by show ksS 0 id = _; unfold ksS; rw [hk]; rfl
      have hK := Lib.hid hk
      simp only [hc] at hi
      clear hk hc
      go_enter Try.func16, Try.ntmps16
      go_wp2_with (first | (refine wpl_box (by rfl) 25 _ (by rfl) _ ([.int .i64 l, .int .i64 v, .int .i64 m, .int .i64 0, .int .i64 po, .int .i64 pr, .int .u32 rd, .int .u32 rp, .int .u32 id, .int .u64 ref, .int .u64 org, .int .u64 rec, .int .u64 xmt]) (by rfl) rfl ?_; intro w1 H1 s1 b1) | (refine wpl_loadf (by rfl) 3 _ (by rfl) w.heap.size 3 (by rfl) _ _ H1 _ rfl _ Try.underlying3 rfl ?_) | (refine wpl_loadf (by rfl) 22 _ (by rfl) w.heap.size 8 (by rfl) _ _ H1 _ rfl _ Try.underlying22 rfl ?_))
      have hP := put_any w1.heap.size [(id, 4)] 2 2 23 (w1.alloc (.cells #[.int .u64 id, .int .u64 4] 23)) (heap_alloc_new _ _) rfl hf (by simp)
      rw [he, bytesB_length] at hP
      with_reducible refine hP.mono ?_
      rintro e w2 ⟨A, c, rfl, hB, hc4, hcm, hb2⟩
      have hv := strOf_conv (bytesB_length 4 id) hB (by omega) (c := c)
      have B2 : Below w.heap.size w w2 := (b1.alloc (by omega) _).trans (hb2.mono (by simp; omega))
      clear hP hb2
      rw [show strOf (bytesB 4 id) = idS id from rfl] at hv
      go_wp2_with (first | (go_at_call 39; ((with_reducible refine (hi _).mono ?_); rintro e w1 ⟨rfl, rfl⟩)))
      go_ret2
      exact ⟨tup2 (vstr hS.out.symm) (vbool hK.out.symm), B2⟩
    | true =>
      have hk : ksB 0 id = true := by simp [ksB, hc]
      have hS : Hid (ksS 0 id = idS id) := by show ksS 0 id = _; unfold ksS; rw [hk]; rfl
      have hK := Lib.hid hk
      simp only [hc] at hi
      clear hk hc
      go_enter Try.func16, Try.ntmps16
      go_wp2_with (first | (refine wpl_box (by rfl) 25 _ (by rfl) _ ([.int .i64 l, .int .i64 v, .int .i64 m, .int .i64 0, .int .i64 po, .int .i64 pr, .int .u32 rd, .int .u32 rp, .int .u32 id, .int .u64 ref, .int .u64 org, .int .u64 rec, .int .u64 xmt]) (by rfl) rfl ?_; intro w1 H1 s1 b1) | (refine wpl_loadf (by rfl) 3 _ (by rfl) w.heap.size 3 (by rfl) _ _ H1 _ rfl _ Try.underlying3 rfl ?_) | (refine wpl_loadf (by rfl) 22 _ (by rfl) w.heap.size 8 (by rfl) _ _ H1 _ rfl _ Try.underlying22 rfl ?_))
      have hP := put_any w1.heap.size [(id, 4)] 2 2 23 (w1.alloc (.cells #[.int .u64 id, .int .u64 4] 23)) (heap_alloc_new _ _) rfl hf (by simp)
      rw [he, bytesB_length] at hP
      with_reducible refine hP.mono ?_
      rintro e w2 ⟨A, c, rfl, hB, hc4, hcm, hb2⟩
      have hv := strOf_conv (bytesB_length 4 id) hB (by omega) (c := c)
      have B2 : Below w.heap.size w w2 := (b1.alloc (by omega) _).trans (hb2.mono (by simp; omega))
      clear hP hb2
      rw [show strOf (bytesB 4 id) = idS id from rfl] at hv
      go_wp2_with (first | (go_at_call 39; ((with_reducible refine (hi _).mono ?_); rintro e w1 ⟨rfl, rfl⟩)))
      go_ret2
      exact ⟨tup2 (vstr hS.out.symm) (vbool hK.out.symm), B2⟩
  · have hne : (st != 0) = true := by simpa using h0
    have hk : ksB st id = false := by simp [ksB, h0]
    have hS : Hid (ksS st id = ⟨#[]⟩) := by show ksS st id = _; unfold ksS; rw [hk]; rfl
    have hK := Lib.hid hk
    clear hk h0
    go_enter Try.func16, Try.ntmps16
    go_wp2
    go_ret2
    exact ⟨tup2 (vstr hS.out.symm) (vbool hK.out.symm), by (repeat (first | assumption | exact Below.refl _ _ | refine Below.drew ?_ | refine below_drewN ?_ _ | refine Below.setCell ?_ (by first | omega | (simp; done) | (simp <;> omega)) _ | refine Below.alloc ?_ (by first | omega | (simp; done) | (simp <;> omega)) _ | refine Below.trans ?_ (Below.mono (by assumption) (by first | omega | (simp; done) | (simp <;> omega)))))⟩
end Go.Proofs.Ytjclifjipphnkaa
