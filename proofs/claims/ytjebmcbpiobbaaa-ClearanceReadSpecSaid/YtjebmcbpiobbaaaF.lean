import Derived.Test.YtjebmcbpiobbaaaE
namespace Go.Proofs.Ytjebmcbpiobbaaa
open Go.RowKit

theorem flat_one (l : List Clr) : ∀ u ∈ l.flatMap Clr.cells, u.oneCell' = true := by
  intro u hu
  obtain ⟨x, _, hx⟩ := List.mem_flatMap.1 hu
  simp [Clr.cells] at hx
  rcases hx with rfl | rfl | rfl | rfl | rfl | rfl | rfl | rfl | rfl <;> rfl

/-- What Clone hands back: the list, in memory of its own. -/
def Cloned (w : World) (l : List Clr) (e : Ending) (w' : World) : Prop :=
  ∃ A c, e = .returned (.slice A l.length c) ∧ Slc w' Clr.cells 9 A l ∧ l.length ≤ c ∧ (∀ b o s, A = some ⟨b, o, s⟩ → w.heap.size ≤ b ∧ o = 0 ∧ ∃ cur, w'.heap[b]? = some (.cells cur 31 (0, 0))) ∧ Below w.heap.size w w'

theorem own_forms {w : World} {base : Nat} {e : TypeId} {size : Nat} {v : Value} {n : Nat} {xs : List Value} (h : w.ownsRow base e size v n xs) :
    ∃ A cap, v = .slice A n cap ∧ n ≤ cap ∧ ∀ b o s, A = some ⟨b, o, s⟩ → base ≤ b ∧ o = 0 ∧ ∃ cur, w.heap[b]? = some (.cells cur e (0, 0)) := by
  rcases h.2 with ⟨hv, h0⟩ | ⟨g, cap, cur, hv, hb, hg, hc, _⟩
  · subst h0; exact ⟨none, 0, hv, Nat.le_refl _, fun b o s h => by cases h⟩
  · exact ⟨some ⟨g, 0, none⟩, cap, hv, hc, fun b o s h => by cases h; exact ⟨hb, rfl, cur, hg⟩⟩
set_option maxHeartbeats 400000 in
theorem clone_any (A : Option Addr) (c : Nat) (l : List Clr) (w : World) (ha : Slc w Clr.cells 9 A l) (hn : l.length < 1000000) :
    Calls Try.prog 34 #[.slice A l.length c] w (Cloned w l) := by
  obtain ⟨i0, hi, hz0, hz1, hz2⟩ := info_parts info31
  have heq := fun (w : World) (a : Option Addr) (n c : Nat) => Lib.run_eql_slice_nil (P := Try.prog) w 22 31 a n c 0 0 Try.underlying22
  cases A with
  | none =>
    have h0 := ha.none_len rfl
    have hl : l = [] := List.eq_nil_of_length_eq_zero h0
    subst hl
    go_enter Try.func34, Try.ntmps34
    go_wp2
    go_ret
    exact ⟨none, 0, rfl, Slc.nil, Nat.le_refl _, (fun b o s h => by cases h), ext_refl _⟩
  | some a =>
    go_enter Try.func34, Try.ntmps34
    go_wp2_with (at_builtin; refine wpList_append_own _ rfl _ _ 22 rfl w.heap.size 31 i0 _ 9 64 Try.underlying22 hi hz0 hz1 hz2 rfl (by decide) _ 0 [] rfl (World.ownsRow_made w #[] 0 (Nat.le_refl _) (by decide) rfl) a l.length c (l.flatMap Clr.cells) rfl (flat_len clr_len l) ((ha.alloc _).olds clr_len a rfl) (flat_one l) (by unfold maxLen; omega) (by omega) (by simp) ?_; intro v' w1 hown hgrow _)
    obtain ⟨A', c', hv, hcap, hown'⟩ := own_forms hown
    subst hv
    go_ret
    have hB : Below w.heap.size w w1 := (ext_alloc (ext_refl w) _).grown hgrow (by simp) (fun k e => by cases e; exact Nat.le_refl _)
    refine ⟨A', c', by simp, Slc.of_own (n := 0 + l.length) clr_len (by decide) (by simpa using hown), by simpa using hcap, ?_, hB⟩
    intro b o s hA
    obtain ⟨h1, h2, h3⟩ := hown' b o s hA
    exact ⟨h1, h2, h3⟩
end Go.Proofs.Ytjebmcbpiobbaaa
