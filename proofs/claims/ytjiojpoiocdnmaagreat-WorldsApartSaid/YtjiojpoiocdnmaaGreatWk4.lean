/- Law 4 as its row asks. -/
import Derived.Test.YtjiojpoiocdnmaaGreatQJ
import Derived.Test.YtjiojpoiocdnmaaGreatU3
import Derived.SizedLaws
set_option linter.unusedSimpArgs false
set_option linter.unusedVariables false
namespace Go.Proofs.YtjiojpoiocdnmaaGreat
open Go.RowKit
theorem u8_in {a : Int} (h : (Lit.int .u8 a).wf = true) : 0 ≤ a ∧ a ≤ 255 := by
  simp [Lit.wf, IntKind.min, IntKind.max, IntKind.signed, IntKind.bits] at h; omega
theorem bytes52 : Tryz.prog.bytesOf 52 = 168 := by kernel_rfl
theorem trod_len {H : Type} {enc : TypeId × Value → H} {P : Program} {w : World} {base : Nat} {spare : Nat → Bool} {held : Bool} {t e : TypeId} {A : Option Addr} {n c : Nat} {d : DataW H} {p : List MemPlace} (ht : P.underlying t = some (.slice e)) (h : DataW.Trod enc P w base spare held t (.slice A n c) d p) :
    n = 0 ∨ ∃ es rs, d = .slice es rs ∧ es.length = n := by
  obtain ⟨fuel, hf⟩ := h
  rcases DataW.trod_slice ht hf with ⟨h1, _⟩ | ⟨a, len, cap, elems, rest, n', _, h1, h2, _, _, _, h3, _⟩
  · left
    simp [Value.cells] at h1
    exact h1.2.1
  · right
    simp [Value.cells] at h1
    injection h2 with h2 _
    exact ⟨_, _, h2, by rw [List.length_map, h3]; exact h1.2.1.symm⟩
theorem reach_len {H : Type} {enc : TypeId × Value → H} {P : Program} {ts : List TypeId} {ds : List (DataW H)} {w : World} {base : Nat} {spare : Nat → Bool} {held : Bool} {j : Nat} {t e : TypeId} {A : Option Addr} {n c b : Nat} {d : DataW H} {p : List MemPlace} (hz : (DataW.weightsEach P ts ds).all (· ≤ reachBytes) = true) (hj : ts[j]? = some t) (hd : ds[j]? = some d) (ht : P.underlying t = some (.slice e)) (hb : P.bytesOf e = b) (h : DataW.Trod enc P w base spare held t (.slice A n c) d p) :
    n * b ≤ 140737488351232 := by
  rcases trod_len ht h with e | ⟨es, rs, rfl, rfl⟩
  · rw [e]; omega
  · have := sized_slice hz hj hd ht
    rw [hb] at this
    simp only [reachBytes] at this
    exact Nat.le_trans (Nat.mul_le_mul_right _ (Nat.le_add_right _ _)) (by omega)
theorem walk4 (t : Tab) (s : SliceOf Stn) (r : SliceOf Rep) (l : SliceOf Trk) (x : Trk) (a : Int) (w : World) (ht : Tab.ok w t) (hs : SliceOf.ok Stn.cells 3 Stn.ok w s) (hr : SliceOf.ok Rep.cells 6 Rep.ok w r) (hl : SliceOf.ok Trk.cells 14 Trk.ok w l) (hx : Trk.ok w x) (ha : (Lit.int .u8 a).wf = true) (hb : l.l.length * 168 ≤ 140737488351232) :
    Calls Tryz.prog 4 #[.agg t.cells.toArray, .slice s.A s.l.length s.c, .slice r.A r.l.length r.c, .slice l.A l.l.length l.c, .agg x.cells.toArray, .int .u8 a] w (Tru w) :=
  law4 t s.A s.c s.l r.A r.c r.l l.A l.c l.l x a (u8_in ha).1 (u8_in ha).2 w ht hs hr hl hx hb
end Go.Proofs.YtjiojpoiocdnmaaGreat
