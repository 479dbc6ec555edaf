/- Contracts: a step of the script, whatever it is. -/
import Derived.Test.YtmnbeikhjbjpiaaT4
import Derived.Test.YtmnbeikhjbjpiaaT5
set_option linter.unusedSimpArgs false
set_option linter.unusedVariables false
namespace Go.Proofs.Ytmnbeikhjbjpiaa
open Go.RowKit
theorem step_any {x y : Bd} {A : Option Addr} {n c P L : Nat} {l : List Lt} {s : Sp} {w : World} (hP : Blk w P (Pc x y A n c)) (hp : PR w P x y A n c l) (h2 : Two ⟨x.bl, y.bl, l⟩) (hlx : LenS L x.bl) (hly : LenS L y.bl) (hL : L ≤ 900) (hn : n ≤ 900) (hs : s.ok) :
    Calls Try.prog 27 #[.pointer (some ⟨P, 0, none⟩), .agg #[.int .u8 s.k, .int .u8 s.si, .int .u8 s.n, .bool s.back, .int .i64 s.mi, .int .i64 s.ra]] w (Went w P L n) := by
  obtain ⟨sk, ssi, sn, back, mi, ra⟩ := s
  obtain ⟨h0, h1, h2'⟩ := hs
  have k0 := wrap_u8 h0
  have s0 := wrap_u8 h1
  have n0 := wrap_u8 h2'
  clear h0 h1 h2'
  simp only at k0 s0 n0 ⊢
  have hi : ssi.tmod 2 = 0 ∨ ssi.tmod 2 = 1 := by rw [Int.tmod_eq_emod_of_nonneg s0.1]; omega
  have hk : sk.tmod 4 = 0 ∨ sk.tmod 4 = 1 ∨ sk.tmod 4 = 2 ∨ sk.tmod 4 = 3 := by rw [Int.tmod_eq_emod_of_nonneg k0.1]; omega
  rcases hi with hi | hi
  · rcases hk with hk | hk | hk | hk
    · cases back
      · exact step_00f x y A n c P L l sk ssi sn mi ra w hP hp h2 hlx hly hL hn k0 s0 n0 hi hk
      · exact step_00t x y A n c P L l sk ssi sn mi ra w hP hp h2 hlx hly hL hn k0 s0 n0 hi hk
    · exact step_01 x y A n c P L l sk ssi sn back mi ra w hP hp h2 hlx hly hL hn k0 s0 n0 hi hk
    · exact step_02 x y A n c P L l sk ssi sn back mi ra w hP hp h2 hlx hly hL hn k0 s0 n0 hi hk
    · exact step_03 x y A n c P L l sk ssi sn back mi ra w hP hp h2 hlx hly hL hn k0 s0 n0 hi hk
  · rcases hk with hk | hk | hk | hk
    · cases back
      · exact step_10f x y A n c P L l sk ssi sn mi ra w hP hp h2 hlx hly hL hn k0 s0 n0 hi hk
      · exact step_10t x y A n c P L l sk ssi sn mi ra w hP hp h2 hlx hly hL hn k0 s0 n0 hi hk
    · exact step_11 x y A n c P L l sk ssi sn back mi ra w hP hp h2 hlx hly hL hn k0 s0 n0 hi hk
    · exact step_12 x y A n c P L l sk ssi sn back mi ra w hP hp h2 hlx hly hL hn k0 s0 n0 hi hk
    · exact step_13 x y A n c P L l sk ssi sn back mi ra w hP hp h2 hlx hly hL hn k0 s0 n0 hi hk
end Go.Proofs.Ytmnbeikhjbjpiaa
