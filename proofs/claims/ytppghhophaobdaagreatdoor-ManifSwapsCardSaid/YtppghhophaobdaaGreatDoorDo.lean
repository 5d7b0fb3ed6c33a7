/- What is done to a disk: the map's turns as frames, and the walk of 'do'. -/
import Derived.Test.YtppghhophaobdaaGreatDoorDk2
namespace Go.Proofs.YtppghhophaobdaaGreatDoor
open Go.RowKit Go.Maps

/-- Block p alone is turned, and no block is new. -/
structure Turn (S : Nat → Prop) (w w' : World) : Prop where
  fr : Fr S w w'
  size : w'.heap.size = w.heap.size

theorem turned_fr {w w' : World} {b : Nat} (h : w.mapTurned w' b) : Fr (fun k => k = b) w w' :=
  ⟨h.grown.os, h.grown.tape, h.grown.output, h.grown.size, fun k hk hs => h.grown.block k hk (fun e => hs (Option.some.inj e))⟩
theorem turned_size {w w' : World} {b : Nat} (h : w.mapTurned w' b) : w'.heap.size = w.heap.size := by
  obtain ⟨es, clock, es', clock', hb, rfl⟩ := h
  simp [ChangeMaps.setBlock]

theorem IsDk.setLeft {w : World} {p b : Nat} {st : DkSt} (h : IsDk w p b st) (n : Int) (h0 : -1 ≤ n) (h1 : n ≤ 9223372036854775807) : IsDk (w.setCell ⟨p, 2, none⟩ (.int .i64 n)) p b { st with left := n } :=
  ⟨by rw [heap_setCell_same w p 2 _ _ _ h.cell]; rfl, h.own.setCell (by show b ≠ p; exact h.ne) _, ⟨h.ok.fs, h.ok.cap0, h.ok.cap1, h.ok.fits, h0, h1⟩⟩
theorem IsDk.setDark {w : World} {p b : Nat} {st : DkSt} (h : IsDk w p b st) (d : Bool) : IsDk (w.setCell ⟨p, 3, none⟩ (.bool d)) p b { st with dark := d } :=
  ⟨by rw [heap_setCell_same w p 3 _ _ _ h.cell]; rfl, h.own.setCell (by show b ≠ p; exact h.ne) _, ⟨h.ok.fs, h.ok.cap0, h.ok.cap1, h.ok.fits, h.ok.left0, h.ok.left1⟩⟩
theorem setCell_fr {w : World} (a : Addr) (u : Value) : Fr (fun k => k = a.block) w (w.setCell a u) := (Fr.refl (fun k => k = a.block) w).setCell a (fun _ => rfl) u

/-- One thing less. -/
def dec (n : Int) : Int := if n = -1 then -1 else n - 1

set_option maxRecDepth 100000 in
set_option maxHeartbeats 1000000 in
theorem dk_do (fk : FuncId) (caps : Array Value) (w : World) (p b : Nat) (st : DkSt) (h : IsDk w p b st) (hent : Enters Tryz.prog fk) (Q : World → Prop)
    (hact : st.left ≠ 0 → ∀ w1, Fr (fun k => k = p) w w1 → w1.heap.size = w.heap.size → IsDk w1 p b { st with left := dec st.left } → Calls Tryz.prog fk caps w1 fun e w2 => e = .returned (.tuple #[]) ∧ Q w2) :
    Calls Tryz.prog 104 #[.pointer (some ⟨p, 0, none⟩), .func (.func fk) #[] caps] w fun e w' =>
      (st.left = 0 ∧ e = .returned (.int .i64 45) ∧ Fr (fun k => k = p) w w' ∧ IsDk w' p b { st with dark := true }) ∨ (st.left ≠ 0 ∧ e = .returned (.int .i64 0) ∧ Q w') := by
  have he : ∀ (args : Array Value) (w : World), (callFunc fk args).run Tryz.prog w = .ok (.enter fk args) w := hent
  have hp := h.lt
  obtain ⟨c0, c1, c2, c3⟩ := h.cs
  have z3 := h.fz 3
  have z2 := h.fz 2
  by_cases h0 : st.left = 0
  · have HD := Lib.hid (h.setDark true)
    have H0 := Lib.hid h0
    clear hact h
    rw [h0] at c2
    clear h0
    go_enter Tryz.func104, Tryz.ntmps104
    go_wp2
    go_ret
    exact .inl ⟨H0.out, rfl, setCell_fr ⟨p, 3, none⟩ _, HD.out⟩
  · by_cases h1 : st.left = -1
    · have HA := Lib.hid (hact h0 w (Fr.refl _ _) rfl (by rw [h1]; have := h; cases st; simp only at h1; subst h1; exact this))
      have H0 := Lib.hid h0
      clear hact h
      rw [h1] at c2
      clear h0 h1
      go_enter Tryz.func104, Tryz.ntmps104
      go_wp2_with fail
      refine HA.out.mono ?_
      rintro e w2 ⟨rfl, hq⟩
      have HQ := Lib.hid hq
      clear hq
      go_wp2
      go_ret
      exact .inr ⟨H0.out, rfl, HQ.out⟩
    · have hl0 := h.ok.left0
      have hl1 := h.ok.left1
      have HA := Lib.hid (hact h0 _ (setCell_fr ⟨p, 2, none⟩ (.int .i64 (st.left - 1))) (by simp) (by
        rw [show dec st.left = st.left - 1 from by unfold dec; rw [if_neg h1]]
        exact h.setLeft _ (by omega) (by omega)))
      have H0 := Lib.hid h0
      clear hact h
      go_enter Tryz.func104, Tryz.ntmps104
      go_wp2_with fail
      refine HA.out.mono ?_
      rintro e w2 ⟨rfl, hq⟩
      have HQ := Lib.hid hq
      clear hq
      go_wp2
      go_ret
      exact .inr ⟨H0.out, rfl, HQ.out⟩
end Go.Proofs.YtppghhophaobdaaGreatDoor
