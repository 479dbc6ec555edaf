import Derived.Test.YtjebmcbpiobbaaaF
namespace Go.Proofs.Ytjebmcbpiobbaaa
open Go.RowKit

theorem read1_any (g o : Nat) (w : World) (v : Value) (h : w.cell? ⟨g, o + 7, none⟩ = some v) (hf : w.frozen? ⟨g, o + 7, none⟩ = false) :
    Calls Try.prog 30 #[.pointer (some ⟨g, o, none⟩)] w fun e w' => e = .returned (.int .i64 0) ∧ w.setCell ⟨g, o + 7, none⟩ (.bool true) = w' := by
  go_enter Try.func30, Try.ntmps30
  go_wp2
  go_ret
  exact ⟨rfl, rfl⟩
theorem withdraw1_yes (g o : Nat) (w : World) (v : Value) (h7 : w.cell? ⟨g, o + 7, none⟩ = some (.bool false)) (h : w.cell? ⟨g, o + 8, none⟩ = some v) (hf : w.frozen? ⟨g, o + 8, none⟩ = false) :
    Calls Try.prog 32 #[.pointer (some ⟨g, o, none⟩)] w fun e w' => e = .returned (.int .i64 0) ∧ w.setCell ⟨g, o + 8, none⟩ (.bool true) = w' := by
  go_enter Try.func32, Try.ntmps32
  go_wp2
  go_ret
  exact ⟨rfl, rfl⟩
theorem withdraw1_no (g o : Nat) (w : World) (h7 : w.cell? ⟨g, o + 7, none⟩ = some (.bool true)) :
    Calls Try.prog 32 #[.pointer (some ⟨g, o, none⟩)] w fun e w' => e = .returned (.int .i64 341) ∧ w = w' := by
  go_enter Try.func32, Try.ntmps32
  go_wp2
  go_ret
  exact ⟨rfl, rfl⟩

def Acts (g : Nat) (G : Clr → Clr × Int) : Prop := ∀ (b o : Nat) (x : Clr) (w : World), (∀ j v, x.cells[j]? = some v → w.cell? ⟨b, o + j, none⟩ = some v) → (∀ j, w.frozen? ⟨b, o + j, none⟩ = false) →
  Calls Try.prog g #[.pointer (some ⟨b, o, none⟩)] w fun e w' => e = .returned (.int .i64 (G x).2) ∧ ((G x).2 ≠ 0 → w = w') ∧ ((G x).2 = 0 → ∃ r v, r < 9 ∧ w.setCell ⟨b, o + r, none⟩ v = w' ∧ (G x).1.cells = x.cells.set r v)
theorem read1_acts : Acts 30 rdG := fun b o x w hc hf => by
  refine (read1_any b o w _ (hc 7 _ rfl) (hf 7)).mono ?_
  rintro e w' ⟨rfl, rfl⟩
  exact ⟨rfl, fun h => absurd rfl h, fun _ => ⟨7, .bool true, by decide, rfl, rfl⟩⟩
theorem withdraw1_acts : Acts 32 wdG := fun b o x w hc hf => by
  cases hr : x.rd
  · have h7 := hc 7 _ rfl
    rw [hr] at h7
    refine (withdraw1_yes b o w _ h7 (hc 8 _ rfl) (hf 8)).mono ?_
    rintro e w' ⟨rfl, rfl⟩
    have hG : wdG x = ({ x with wd := true }, 0) := by simp [wdG, hr]
    rw [hG]
    exact ⟨rfl, fun h => absurd rfl h, fun _ => ⟨8, .bool true, by decide, rfl, rfl⟩⟩
  · have h7 := hc 7 _ rfl
    rw [hr] at h7
    refine (withdraw1_no b o w h7).mono ?_
    rintro e w' ⟨rfl, rfl⟩
    have hG : wdG x = (x, 341) := by simp [wdG, hr]
    rw [hG]
    exact ⟨rfl, fun _ => rfl, fun h => by simp at h⟩
end Go.Proofs.Ytjebmcbpiobbaaa
