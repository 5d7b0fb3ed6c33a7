/- The walks of soukref13.May and Make. -/
import Derived.Test.YtppghhophaobdaaGreatDoorMake
import Derived.Test.YtppghhophaobdaaGreatDoorRfW
namespace Go.Proofs.YtppghhophaobdaaGreatDoor
open Go.RowKit Go.Sort

/-- The first batch ahead of place k. -/
def lastAt (l : Segs) (k : Nat) : Int := if h : 0 < k ∧ k - 1 < l.length then (l[k - 1]'h.2).2 else -1
theorem lastAt_zero (l : Segs) : lastAt l 0 = -1 := by unfold lastAt; rw [dif_neg (by omega)]
theorem lastAt_succ (l : Segs) (k : Nat) (h : k < l.length) : lastAt l (k + 1) = l[k].2 := by unfold lastAt; rw [dif_pos ⟨by omega, by omega⟩]; rfl

theorem rf_may_bad0 {g : Int} {l : Segs} (h : g < 0 ∨ 99999999 < g ∨ l.length < 1 ∨ 64 < l.length) : false = mayB g l := by
  symm
  rw [Bool.eq_false_iff]
  intro h1
  obtain ⟨a, b, c, d, _⟩ := mayB_all h1
  omega

theorem rf_drewN {B : Nat} {a b : World} (h : Below B a b) (n : Nat) : Below B a (b.drewN n) := ⟨h.os, h.tape, h.output, h.size, h.block⟩

set_option maxRecDepth 100000 in
set_option maxHeartbeats 4000000 in
theorem rf_may (w : World) (g : Int) (sv : Value) (l : Segs) (hs : SegsAt w sv l) (hl : l.length ≤ 1099511627776) :
    Calls Tryz.prog 131 #[.agg #[.int .i64 g, sv]] w fun e w' => e = .returned (.bool (mayB g l)) ∧ Below w.heap.size w w' := by
  obtain ⟨a, c, rfl⟩ := hs.shape
  have HS := Lib.hid hs
  clear hs
  by_cases h0 : g < 0 ∨ 99999999 < g ∨ l.length < 1 ∨ 64 < l.length
  · have H0 := Lib.hid (rf_may_bad0 h0)
    go_enter Tryz.func131, Tryz.ntmps131
    go_wp2
    all_goals first
      | (go_ret; exact ⟨ret_bool H0.out, (Below.refl _ _).alloc (Nat.le_refl _) _⟩)
      | (exfalso; omega)
  · have g0 : 0 ≤ g := by omega
    have g1 : g ≤ 99999999 := by omega
    have l0 : 1 ≤ l.length := by omega
    have l1 : l.length ≤ 64 := by omega
    clear h0
    go_enter Tryz.func131, Tryz.ntmps131
    go_wp2
    go_loopw [3] (fun i wr => ∃ (k : Nat), k ≤ l.length ∧ i = .int .i64 k ∧ -1 ≤ lastAt l k ∧ segsOk g (-1) l = segsOk g (lastAt l k) (l.drop k) ∧ Below (w.heap.size + 1) (w.alloc (.cells #[.int .i64 g, .slice a l.length c] 25)) wr) (fun i _ => l.length - (intOf i).toNat)
    case atStart => exact ⟨0, by omega, rfl, by rw [lastAt_zero]; omega, by rw [lastAt_zero]; rfl, Below.refl _ _⟩
    case round =>
      obtain ⟨k, hk, rfl, hla, hok, hb⟩ := hrel
      have HOK := Lib.hid hok
      clear hok
      have hsz := hb.size
      simp at hsz
      have hsz2 : w.heap.size < wr.heap.size := by omega
      have hc3 : wr.cell? ⟨w.heap.size, 0, none⟩ = some (.int .i64 g) := by rw [hb.cell (by show w.heap.size < _; omega), World.cell?_alloc_at _ _ _ _ rfl]; rfl
      have hc4 : wr.cell? ⟨w.heap.size, 1, none⟩ = some (.slice a l.length c) := by rw [hb.cell (by show w.heap.size < _; omega), World.cell?_alloc_at _ _ _ _ rfl]; rfl
      by_cases hlt : k < l.length
      · have HST := Lib.hid (segsOk_step (g := g) (last := lastAt l k) hlt)
        have HLS := Lib.hid (lastAt_succ l k hlt)
        obtain ⟨b, o, rfl, h1, h2, hbl⟩ := HS.out.at k hlt
        have hc1 : wr.cell? ⟨b, o + k * 2, none⟩ = some (.int .i64 l[k].1) := by rw [hb.cell (by show b < _; omega), World.cell?_alloc_past _ _ _ hbl]; exact h1
        have hc2 : wr.cell? ⟨b, o + k * 2 + 1, none⟩ = some (.int .i64 l[k].2) := by rw [hb.cell (by show b < _; omega), World.cell?_alloc_past _ _ _ hbl]; exact h2
        clear h1 h2
        have hp : 0 < k → wr.cell? ⟨b, o + (k - 1) * 2 + 1, none⟩ = some (.int .i64 (lastAt l k)) := fun h => by
          obtain ⟨b', o', e, _, h2', _⟩ := HS.out.at (k - 1) (by omega)
          cases e
          rw [hb.cell (by show b < _; omega), World.cell?_alloc_past _ _ _ hbl, h2']
          have := lastAt_succ l (k - 1) (by omega)
          rw [show k - 1 + 1 = k from by omega] at this
          rw [this]
        have HLA0 := Lib.hid (show k = 0 → lastAt l k = -1 from fun h => by subst h; exact lastAt_zero l)
        generalize hP : lastAt l k = P at *
        have HPE := Lib.hid hP
        clear hP
        generalize l[k].1 = A at *
        generalize l[k].2 = F at *
        have HP := Lib.hid hp
        clear hp
        go_wp2_with fail
        have hbz : Below wr.heap.size wr (wr.alloc (.cells #[.int .i64 A, .int .i64 F] 117)) := (Below.refl _ _).alloc (Nat.le_refl _) _
        have hB := Lib.hid (hb.trans (hbz.mono (by omega)))
        have x0 : (wr.alloc (.cells #[.int .i64 A, .int .i64 F] 117)).cell? ⟨wr.heap.size, 0, none⟩ = some (.int .i64 A) := by rw [World.cell?_alloc_at _ _ _ _ rfl]; rfl
        have x1 : (wr.alloc (.cells #[.int .i64 A, .int .i64 F] 117)).cell? ⟨wr.heap.size, 1, none⟩ = some (.int .i64 F) := by rw [World.cell?_alloc_at _ _ _ _ rfl]; rfl
        have y3 := (hbz.cell (p := ⟨w.heap.size, 0, none⟩) hsz2).trans hc3
        have y4 := (hbz.cell (p := ⟨w.heap.size, 1, none⟩) hsz2).trans hc4
        have HP2 := Lib.hid (show 0 < k → (wr.alloc (.cells #[.int .i64 A, .int .i64 F] 117)).cell? ⟨b, o + (k - 1) * 2 + 1, none⟩ = some (.int .i64 P) from fun h => (hbz.cell (p := ⟨b, o + (k - 1) * 2 + 1, none⟩) (by show b < _; omega)).trans (HP.out h))
        clear hc1 hc2 hc3 hc4 hb hbz
        generalize (wr.alloc (.cells #[.int .i64 A, .int .i64 F] 117)) = w2 at *
        generalize wr.heap.size = xb at *
        by_cases c1 : A < 0
        · have d1 : decide (A < 0) = true := by simpa using c1
          go_quiet (fail)
          go_wp2
          go_ret
          exact ⟨ret_bool (may_bad HOK.out HST.out (by omega)), below_box (rf_drewN hB.out _)⟩
        · have d1 : decide (A < 0) = false := by simpa using c1
          by_cases c2 : g < A
          · have d2 : decide (g < A) = true := by simpa using c2
            go_quiet (fail)
            go_wp2
            go_ret
            exact ⟨ret_bool (may_bad HOK.out HST.out (by omega)), below_box (rf_drewN hB.out _)⟩
          · have d2 : decide (g < A) = false := by simpa using c2
            by_cases c3 : F < 0
            · have d3 : decide (F < 0) = true := by simpa using c3
              go_quiet (fail)
              go_wp2
              go_ret
              exact ⟨ret_bool (may_bad HOK.out HST.out (by omega)), below_box (rf_drewN hB.out _)⟩
            · have d3 : decide (F < 0) = false := by simpa using c3
              by_cases c4 : 1048576 < F
              · have d4 : decide (1048576 < F) = true := by simpa using c4
                go_quiet (fail)
                go_wp2
                go_ret
                exact ⟨ret_bool (may_bad HOK.out HST.out (by omega)), below_box (rf_drewN hB.out _)⟩
              · have d4 : decide (1048576 < F) = false := by simpa using c4
                by_cases ck : 0 < k
                · have dk : decide ((0 : Int) < (k : Int)) = true := by simpa using ck
                  have hp2 := HP2.out ck
                  have hkw : IntKind.i64.wrap ((k : Int) - 1) = ((k - 1 : Nat) : Int) := by rw [IntWalk.i64_in _ (by omega)]; omega
                  have hk1 : ((k - 1 : Nat) : Int) < ((l.length : Nat) : Int) := by omega
                  have hk2 : (0 : Int) ≤ ((k - 1 : Nat) : Int) := by omega
                  by_cases c5 : F ≤ P
                  · have d5 : decide (F ≤ P) = true := by simpa using c5
                    go_quiet (fail)
                    go_wp2
                    go_ret
                    exact ⟨ret_bool (may_bad HOK.out HST.out (by omega)), below_box (rf_drewN hB.out _)⟩
                  · have d5 : decide (F ≤ P) = false := by simpa using c5
                    go_quiet (fail)
                    go_wp2
                    go_roundw
                    case rel => exact ⟨k + 1, by omega, by go_num, by rw [HLS.out]; omega, by rw [HLS.out]; exact may_good HOK.out HST.out (by omega) (by omega) (by omega) (by omega), rf_drewN hB.out _⟩
                    case measure => simp [intOf]; omega
                · have dk : decide ((0 : Int) < (k : Int)) = false := by simpa using ck
                  have hP0 := HLA0.out (by omega)
                  go_quiet (fail)
                  go_wp2
                  go_roundw
                  case rel => exact ⟨k + 1, by omega, by go_num, by rw [HLS.out]; omega, by rw [HLS.out]; exact may_good HOK.out HST.out (by omega) (by omega) (by omega) (by omega), rf_drewN hB.out _⟩
                  case measure => simp [intOf]; omega
      · have HE := Lib.hid (may_end HOK.out (List.drop_eq_nil_of_le (by omega)))
        go_wp2
        all_goals (go_ret; refine ⟨ret_bool (by rw [HE.out]; simp; omega), below_box hb⟩)
end Go.Proofs.YtppghhophaobdaaGreatDoor
