/- Where a flight is on a valid path: Stays. -/
import Derived.Test.YtjiojpoiocdnmaaGreatNI
import Derived.Test.YtjiojpoiocdnmaaGreatU6
set_option linter.unusedSimpArgs false
set_option linter.unusedVariables false
namespace Go.Proofs.YtjiojpoiocdnmaaGreat
open Go.RowKit
theorem tab_legs {t : Tab} (h : chkT t = 0) : ∀ x ∈ t.ws.l, x.legs.l.length ≤ 8 := by
  intro x hx
  unfold chkT at h
  split at h
  · rename_i q
    simp only [Bool.and_eq_true, List.all_eq_true] at q
    have := q.1.1.2 x hx
    simp only [wayB, Bool.and_eq_true, inn_iff] at this
    omega
  · cases h
def StaysT (w : World) (L : List Sty) (e : Ending) (w' : World) : Prop := ∃ A c, e = .returned (.tuple #[.slice A L.length c, .int .i64 0]) ∧ Own w' w.heap.size 113 Sty.cells 4 (.slice A L.length c) L ∧ Below w.heap.size w w'
set_option maxRecDepth 100000 in
theorem stays_any (t : Tab) (p : Pth) (w : World) (ht : Tab.ok w t) (hp : Pth.ok w p) (hc : chkT t = 0) (hb : pathB t p = true) : Calls Tryz.prog 43 #[t.v, p.v] w (StaysT w (staysL t p)) := by
  have HLG := Lib.hid (tab_legs hc)
  obtain ⟨L, hL⟩ : ∃ L, staysL t p = L := ⟨_, rfl⟩
  have hO : ∀ W, Below w.heap.size w W → Calls Tryz.prog 56 #[t.v, p.v] W (StaysR W L) := fun W hW => by rw [← hL]; exact osts_any t p W (ht.ext hW) (SliceOf.ok.ext hp hW fun _ h => h) HLG.out hb
  rw [hL]
  have HO := Lib.hid hO
  have HT := Lib.hid ht
  have HP := Lib.hid hp
  have HC := Lib.hid hc
  have HB := Lib.hid (pathE_of hb)
  clear hL hO ht hp hc hb
  have E0 := ext_alloc (ext_alloc (ext_refl w) (.cells #[.int .i64 t.n, .slice t.ss.A t.ss.l.length t.ss.c, .slice t.cs.A t.cs.l.length t.cs.c, .slice t.ws.A t.ws.l.length t.ws.c, .slice t.ms.A t.ms.l.length t.ms.c, .slice t.ks.A t.ks.l.length t.ks.c] 28)) (.cells #[.int .i64 p.way, .slice p.ts.A p.ts.l.length p.ts.c] 71)
  have bt := (Blk.newH w t.cells 28 w.heap.size rfl).alloc (.cells #[.int .i64 p.way, .slice p.ts.A p.ts.l.length p.ts.c] 71)
  have bp := Blk.newH (w.alloc (.cells t.cells.toArray 28)) p.cells 71 (w.heap.size + 1) (by simp)
  have BT : Hid (Blk ((w.alloc (.cells #[.int .i64 t.n, .slice t.ss.A t.ss.l.length t.ss.c, .slice t.cs.A t.cs.l.length t.cs.c, .slice t.ws.A t.ws.l.length t.ws.c, .slice t.ms.A t.ms.l.length t.ms.c, .slice t.ks.A t.ks.l.length t.ks.c] 28)).alloc (.cells #[.int .i64 p.way, .slice p.ts.A p.ts.l.length p.ts.c] 71)) w.heap.size t.cells) := bt
  have BP : Hid (Blk ((w.alloc (.cells #[.int .i64 t.n, .slice t.ss.A t.ss.l.length t.ss.c, .slice t.cs.A t.cs.l.length t.cs.c, .slice t.ws.A t.ws.l.length t.ws.c, .slice t.ms.A t.ms.l.length t.ms.c, .slice t.ks.A t.ks.l.length t.ks.c] 28)).alloc (.cells #[.int .i64 p.way, .slice p.ts.A p.ts.l.length p.ts.c] 71)) (w.heap.size + 1) p.cells) := bp
  have HE := Lib.hid E0
  clear bt bp E0
  go_enter Tryz.func43, Tryz.ntmps43
  go_wp2_with fail
  refine (achk_at 0 HC.out (HT.out.ext HE.out)).mono ?_
  rintro e w1 ⟨rfl, B⟩
  replace HE := Lib.hid (ext_trans HE.out B)
  replace BT := Lib.hid (BT.out.ext B)
  replace BP := Lib.hid (BP.out.ext B)
  clear B
  have t0 := BT.out.c 0 _ rfl
  have t1 := BT.out.c 1 _ rfl
  have t2 := BT.out.c 2 _ rfl
  have t3 := BT.out.c 3 _ rfl
  have t4 := BT.out.c 4 _ rfl
  have t5 := BT.out.c 5 _ rfl
  have p0 := BP.out.c 0 _ rfl
  have p1 := BP.out.c 1 _ rfl
  go_wp2_with fail
  refine (path_at 0 HB.out (HT.out.ext HE.out) (SliceOf.ok.ext HP.out HE.out fun _ h => h) HLG.out).mono ?_
  rintro e w2 ⟨rfl, B⟩
  clear t0 t1 t2 t3 t4 t5 p0 p1
  replace HE := Lib.hid (ext_trans HE.out B)
  replace BT := Lib.hid (BT.out.ext B)
  replace BP := Lib.hid (BP.out.ext B)
  clear B
  have t0 := BT.out.c 0 _ rfl
  have t1 := BT.out.c 1 _ rfl
  have t2 := BT.out.c 2 _ rfl
  have t3 := BT.out.c 3 _ rfl
  have t4 := BT.out.c 4 _ rfl
  have t5 := BT.out.c 5 _ rfl
  have p0 := BP.out.c 0 _ rfl
  have p1 := BP.out.c 1 _ rfl
  go_wp2_with fail
  refine (HO.out _ HE.out).mono ?_
  rintro e w3 ⟨A, c, rfl, hO3, B⟩
  clear t0 t1 t2 t3 t4 t5 p0 p1
  have HO4 := Lib.hid (hO3.low HE.out.size)
  replace HE := Lib.hid (ext_trans HE.out B)
  clear B hO3 BT BP
  go_wp2_with fail
  go_ret2
  exact ⟨A, c, rfl, HO4.out, HE.out⟩
end Go.Proofs.YtjiojpoiocdnmaaGreat
