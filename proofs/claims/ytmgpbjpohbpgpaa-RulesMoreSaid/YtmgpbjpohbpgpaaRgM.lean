/- Four operations that may come up; the operations under a name. No program in sight. -/
import Derived.Test.YtmgpbjpohbpgpaaRg
set_option linter.unusedSimpArgs false
set_option linter.unusedVariables false
namespace Go.Proofs.Ytmgpbjpohbpgpaa
variable {P : Program} {md : Region.Mode} {ops : Array Oper} {Q : Exit → Act → World → Prop} {S : World → Prop} {k : Nat}
theorem rg_four {i j m n f : Nat} {l : Array Bool} {a : Act} {w : World} (hr : Region.ready md ops l = [i, j, m, n]) (h1 : Step P md ops Q k S f l a w i) (h2 : Step P md ops Q k S f l a w j) (h3 : Step P md ops Q k S f l a w m) (h4 : Step P md ops Q k S f l a w n) : WT P md ops Q k S (f + 1) l a w :=
  ⟨fun h0 => absurd (hr ▸ h0) (by simp), fun q hq => by
    rw [hr] at hq
    rcases List.mem_cons.1 hq with rfl | hq
    · exact h1
    · rcases List.mem_cons.1 hq with rfl | hq
      · exact h2
      · rcases List.mem_cons.1 hq with rfl | hq
        · exact h3
        · obtain rfl := List.mem_singleton.1 hq; exact h4⟩
theorem rg_list {f : Nat} {l l' : Array Bool} {a : Act} {w : World} (e : l = l') (h : WT P md ops Q k S f l' a w) : WT P md ops Q k S f l a w := by
  subst e; exact h
theorem rg_ops {f : Nat} {l : Array Bool} {a : Act} {w : World} (h : ∀ o, o = ops → WT P md o Q k S f l a w) : WT P md ops Q k S f l a w := h ops rfl
end Go.Proofs.Ytmgpbjpohbpgpaa
