/- A header that was written is read back: Decode of what Encode wrote, with whatever stands behind it. -/
import Derived.Test.YtghcaplhanjgbaaNtp5
import Derived.Test.YtghcaplhanjgbaaNtpP
namespace Go.Proofs.Ytghcaplhanjgbaa
open Go.RowKit
set_option linter.unusedSimpArgs false
set_option linter.unusedVariables false
set_option maxRecDepth 100000
theorem decode_enc (l v m st po pr rd rp id ref org rec xmt : Int) (A : Option Addr) (n c : Nat) (beh : List Int) (w : World) (hk : nchk l v m st po pr = 0) (h6 : 0 ≤ rd ∧ rd ≤ 4294967295) (h7 : 0 ≤ rp ∧ rp ≤ 4294967295) (h8 : 0 ≤ id ∧ id ≤ 4294967295) (h9 : 0 ≤ ref ∧ ref ≤ 18446744073709551615) (h10 : 0 ≤ org ∧ org ≤ 18446744073709551615) (h11 : 0 ≤ rec ∧ rec ≤ 18446744073709551615) (h12 : 0 ≤ xmt ∧ xmt ≤ 18446744073709551615) (hn : beh.length + 48 = n) (hb : Bs w 0 w.heap.size A (encH l v m st po pr rd rp id ref org rec xmt ++ beh)) (hm : n ≤ 1000000) :
    Calls Try.prog 10 #[.slice A n c] w fun e w' => ∃ A' c', e = .returned (.tuple #[ntp l v m st po pr rd rp id ref org rec xmt, .slice A' (n - 48) c', .int .i64 0]) ∧ Ow w' w.heap.size A' c' beh ∧ Below w.heap.size w w' := by
  obtain ⟨L, hL, f0, f1, f2, f3, f4, f5, f6, f7, f8, f9, f10, fd⟩ := encH_back l v m st po pr rd rp id ref org rec xmt beh hk h6 h7 h8 h9 h10 h11 h12
  obtain ⟨kl, kv, km, kst, kpo, kpr⟩ := nchk_ok hk
  rw [← hL] at hb
  have hLn : L.length = n := by rw [hL, List.length_append, encH_len]; omega
  have hE := decode_ok A n c L w hLn hb (by omega) (by omega) (l * 64 + v * 8 + m) f0 (by omega)
  rw [f1, f2, f3, f4, f5, f6, f7, f8, f9, f10, fd, show (l * 64 + v * 8 + m) / 64 = l by omega, show (l * 64 + v * 8 + m) / 8 % 8 = v by omega, show (l * 64 + v * 8 + m) % 8 = m by omega] at hE
  exact hE
end Go.Proofs.Ytghcaplhanjgbaa
