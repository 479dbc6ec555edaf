import Derived.Test.YtjebmcbpiobbaaaD
import Derived.Deep.RegionLawGrows
import Derived.Deep.AppendLies
import Derived.Maps.AppendAt
namespace Go.Proofs.Ytjebmcbpiobbaaa
open Go.RowKit

def RetL (w : World) (r : List Clr × Int) (e : Ending) (w' : World) : Prop :=
  ∃ A c, e = .returned (.tuple #[.slice A r.1.length c, .int .i64 r.2]) ∧ Slc w' Clr.cells 9 A r.1 ∧ r.1.length ≤ c ∧ Below w.heap.size w w'

theorem RetL.nil_ (w w' : World) (z : Int) (h : Below w.heap.size w w') : RetL w ([], z) (.returned (.tuple #[.slice none 0 0, .int .i64 z])) w' :=
  ⟨none, 0, rfl, Slc.nil, Nat.le_refl _, h⟩

theorem clip_any (A : Option Addr) (n c : Nat) (w : World) (h : n ≤ c) (_ : n < 1048576) :
    Calls Try.prog 25 #[.slice A n c] w fun e w' => e = .returned (.slice A n n) ∧ w = w' := by
  go_enter Try.func25, Try.ntmps25
  go_wp2
  go_ret
  exact ⟨rfl, rfl⟩

theorem info31 : (Try.prog.info? 31).map (fun i => (i.zero, i.size, i.bytes)) = some (some (.agg #[.int .i64 0, .int .i64 0, .int .i64 0, .int .i64 0, .int .i64 0, .int .i64 0, .bool false, .bool false, .bool false]), 9, 64) := by kernel_rfl
theorem clr_len (x : Clr) : x.cells.length = 9 := rfl

theorem newC_one (l : List Clr) (fl m : Int) (o : Opt) : ∀ u ∈ (newC l fl o m).cells, u.oneCell' = true := by
  simp [Clr.cells, Value.oneCell']
theorem own_form {w : World} {base : Nat} {e : TypeId} {size : Nat} {v : Value} {n : Nat} {xs : List Value} (h : w.ownsRow base e size v n xs) (hn : 0 < n) :
    ∃ g cap, v = .slice (some ⟨g, 0, none⟩) n cap ∧ n ≤ cap ∧ base ≤ g ∧ g < w.heap.size := by
  rcases h.2 with ⟨_, h0⟩ | ⟨g, cap, cur, hv, hb, hg, hc, _⟩
  · omega
  · exact ⟨g, cap, hv, hc, hb, (Array.getElem?_eq_some_iff.1 hg).1⟩
set_option maxHeartbeats 800000 in
theorem issue_any (A : Option Addr) (c : Nat) (l : List Clr) (fl m : Int) (o : Opt) (w : World) (ha : Slc w Clr.cells 9 A l) (hn : l.length < 1000000) (hc : l.length ≤ c) :
    Calls Try.prog 12 #[.slice A l.length c, .int .i64 fl, o.v, .int .i64 m] w (RetL w (issue l fl o m)) := by
  obtain ⟨i0, hi, hz0, hz1, hz2⟩ := info_parts info31
  cases h1 : chk l
  · go_enter Try.func12, Try.ntmps12
    go_wp2_with (go_at_call 17; refine (check_any A c l _ (ha.alloc _) (by omega)).mono ?_; rintro e w1 ⟨rfl, hb1⟩; have he : chkE l = 340 := by simp [chkE, h1])
    go_ret2
    rw [show issue l fl o m = ([], 340) by simp [issue, h1]]
    exact RetL.nil_ _ _ _ (ext_trans (ext_alloc (ext_refl _) _) hb1)
  · go_enter Try.func12, Try.ntmps12
    go_wp2_with (go_at_call 17; refine (check_any A c l _ (ha.alloc _) (by omega)).mono ?_; rintro e w1 ⟨rfl, hb1⟩; have he : chkE l = 0 := by simp [chkE, h1])
    clear he
    have hbw : Below w.heap.size w w1 := ext_trans (ext_alloc (ext_refl _) _) hb1
    obtain ⟨hcc, _⟩ := bcell hb1
    have g0 : w1.cell? ⟨w.heap.size, 0, none⟩ = some (.int .i64 o.d) := by rw [hcc _ _ (by simp)]; simp
    have g1 : w1.cell? ⟨w.heap.size, 1, none⟩ = some (.int .i64 o.y) := by rw [hcc _ _ (by simp)]; simp
    have g2 : w1.cell? ⟨w.heap.size, 2, none⟩ = some (.int .i64 o.h) := by rw [hcc _ _ (by simp)]; simp
    have g3 : w1.cell? ⟨w.heap.size, 3, none⟩ = some (.bool o.c) := by rw [hcc _ _ (by simp)]; simp
    have hw1 : w.heap.size < w1.heap.size := by have := hb1.size; simp at this; omega
    clear hcc
    have hS1 := ha.ext hbw
    go_region_law (first | (go_simp; go_at_call 25; refine (clip_any _ _ _ _ hc (by omega)).mono ?_; rintro e w' ⟨rfl, rfl⟩) | (refine step_append_grows rfl (.tmp 18) (.tmp 25) 22 rfl 31 i0 _ 9 64 Try.underlying22 hi hz0 hz1 hz2 rfl (by decide) A l.length l.length (l.flatMap Clr.cells) (by simp [Act.eval]) (fun h => ⟨hS1.none_len h, hS1.none_len h⟩) (flat_len clr_len l) (by exact (hS1.alloc _).drew_.olds clr_len) ⟨w1.heap.size, 0, none⟩ 1 1 (newC l fl o m).cells (by simp [Act.eval]) rfl (by exact cells_new w1 (newC l fl o m).cells 31) (newC_one l fl m o) (by omega) (by unfold maxLen; omega) (by omega) ?_; intro v' w2 hown hgrow))
    all_goals
      obtain ⟨g', cap', rfl, hcap, _, _⟩ := own_form hown (Nat.succ_pos _)
      have hbw2 : Below w.heap.size w w2 := (ext_alloc hbw _).drew.grown hgrow (Nat.le_trans hbw.size (by simp)) (fun k e => by cases e)
      have hS2 : Slc w2 Clr.cells 9 (some ⟨g', 0, none⟩) (l ++ [newC l fl o m]) := Slc.of_own clr_len (by decide) (by rw [List.flatMap_append]; exact hown)
      have hck := check_any (some ⟨g', 0, none⟩) cap' (l ++ [newC l fl o m]) w2 hS2 (by simp; omega)
      rw [show (l ++ [newC l fl o m]).length = l.length + 1 by simp] at hck
      clear hown hgrow
      cases h2 : chk (l ++ [newC l fl o m])
      · go_wp2_with (go_at_call 17; refine hck.mono ?_; rintro e w3 ⟨rfl, hb3⟩; have he : chkE (l ++ [newC l fl o m]) = 340 := by simp [chkE, h2])
        go_ret2
        rw [show issue l fl o m = ([], 340) by simp [issue, h1, h2]]
        exact RetL.nil_ _ _ _ (ext_trans hbw2 hb3)
      · go_wp2_with (go_at_call 17; refine hck.mono ?_; rintro e w3 ⟨rfl, hb3⟩; have he : chkE (l ++ [newC l fl o m]) = 0 := by simp [chkE, h2])
        go_ret2
        rw [show issue l fl o m = (l ++ [newC l fl o m], 0) by simp [issue, h1, h2]]
        exact ⟨some ⟨g', 0, none⟩, cap', by simp, hS2.ext hb3, by simpa using hcap, ext_trans hbw2 hb3⟩
end Go.Proofs.Ytjebmcbpiobbaaa
