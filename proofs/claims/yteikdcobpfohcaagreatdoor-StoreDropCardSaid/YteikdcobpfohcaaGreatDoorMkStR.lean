/- The walks of store.Read. -/
import Derived.Test.YteikdcobpfohcaaGreatDoorMkSnQ
import Derived.Test.YteikdcobpfohcaaGreatDoorMFk
namespace Go.Proofs.YteikdcobpfohcaaGreatDoor
open Go.RowKit Go.Sort Go.Shelf

/-- What a disk, or nobody's, reads of a name. -/
def Reads (w : World) (dv : Value) (nm D : List UInt8) (code : Int) : Prop := ∀ (W : World) (r : ByteArray), Below w.heap.size w W → r.data.toList = nm →
  Calls Tryz.prog 28 #[dv, .string r] W fun e w' => (∃ d : ByteArray, d.data.toList = D ∧ e = .returned (.tuple #[.string d, .int .i64 code])) ∧ Below W.heap.size W w'
theorem Reads.pure {w w' : World} {dv : Value} {nm D : List UInt8} {code : Int} (h : Reads w dv nm D code) (hb : Below w.heap.size w w') : Reads w' dv nm D code := fun W r hW hr => h W r (below_on hb hW) hr

set_option maxRecDepth 100000 in
set_option maxHeartbeats 4000000 in
theorem sread_arg (w : World) (dv : Value) (n : Int) (hn9 : numberB n = false) :
    Calls Tryz.prog 8 #[dv, .int .i64 n] w fun e w' => e = .returned (.tuple #[.agg #[.int .i64 0, .int .i64 0, .int .i64 0, .int .i64 0, .slice none 0 0, .slice none 0 0, .slice none 0 0, .slice none 0 0, .slice none 0 0], .agg #[.slice none 0 0, .slice none 0 0, .slice none 0 0, .slice none 0 0], .int .i64 1]) ∧ Below w.heap.size w w' := by
  go_enter Tryz.func8, Tryz.ntmps8
  go_wp2_with fail
  obtain ⟨b, hn⟩ : ∃ b, b = w.heap.size := ⟨_, rfl⟩
  obtain ⟨W0, hW0⟩ : ∃ W0, W0 = (w.alloc (.cells #[.int .i64 0, .int .i64 0, .int .i64 0, .int .i64 0, .slice none 0 0, .slice none 0 0, .slice none 0 0, .slice none 0 0, .slice none 0 0] 36)).alloc (.cells #[.slice none 0 0, .slice none 0 0, .slice none 0 0, .slice none 0 0] 42) := ⟨_, rfl⟩
  have hbel : Below w.heap.size w W0 := by rw [hW0]; exact ((Below.refl _ _).alloc (Nat.le_refl _) _).alloc (by simp) _
  have k0 : W0.heap[b]? = some (.cells #[.int .i64 0, .int .i64 0, .int .i64 0, .int .i64 0, .slice none 0 0, .slice none 0 0, .slice none 0 0, .slice none 0 0, .slice none 0 0] 36 (0, 0)) := by rw [hW0, hn]; exact (Below.heap_alloc _ _ _ (by simp <;> omega)).trans (heap_alloc_new _ _)
  have k1 : W0.heap[b + 1]? = some (.cells #[.slice none 0 0, .slice none 0 0, .slice none 0 0, .slice none 0 0] 42 (0, 0)) := by rw [hW0, hn]; exact alloc_topY _ _ (by simp)
  have K0 := Lib.hid k0
  have K1 := Lib.hid k1
  have HB := Lib.hid hbel
  have HN := Lib.hid hn
  rw [← hW0, ← hn]
  clear hW0 hn k0 k1 hbel
  refine (snumber_any W0 n).mono ?_
  rintro e w1 ⟨rfl, rfl⟩
  rw [hn9]
  have P9 := Lib.hid K0.out
  have Q9 := Lib.hid K1.out
  have p0 := (cell_of_row _ b 0 _ _ _ (P9.out)).trans (show _ = some (.int .i64 0) from rfl)
  have pf0 := frozen_of_row _ b 0 _ _ (P9.out)
  have p1 := (cell_of_row _ b 1 _ _ _ (P9.out)).trans (show _ = some (.int .i64 0) from rfl)
  have pf1 := frozen_of_row _ b 1 _ _ (P9.out)
  have p2 := (cell_of_row _ b 2 _ _ _ (P9.out)).trans (show _ = some (.int .i64 0) from rfl)
  have pf2 := frozen_of_row _ b 2 _ _ (P9.out)
  have p3 := (cell_of_row _ b 3 _ _ _ (P9.out)).trans (show _ = some (.int .i64 0) from rfl)
  have pf3 := frozen_of_row _ b 3 _ _ (P9.out)
  have p4 := (cell_of_row _ b 4 _ _ _ (P9.out)).trans (show _ = some (.slice none 0 0) from rfl)
  have pf4 := frozen_of_row _ b 4 _ _ (P9.out)
  have p5 := (cell_of_row _ b 5 _ _ _ (P9.out)).trans (show _ = some (.slice none 0 0) from rfl)
  have pf5 := frozen_of_row _ b 5 _ _ (P9.out)
  have p6 := (cell_of_row _ b 6 _ _ _ (P9.out)).trans (show _ = some (.slice none 0 0) from rfl)
  have pf6 := frozen_of_row _ b 6 _ _ (P9.out)
  have p7 := (cell_of_row _ b 7 _ _ _ (P9.out)).trans (show _ = some (.slice none 0 0) from rfl)
  have pf7 := frozen_of_row _ b 7 _ _ (P9.out)
  have p8 := (cell_of_row _ b 8 _ _ _ (P9.out)).trans (show _ = some (.slice none 0 0) from rfl)
  have pf8 := frozen_of_row _ b 8 _ _ (P9.out)
  have q0 := (cell_of_row _ (b + 1) 0 _ _ _ (Q9.out)).trans (show _ = some (.slice none 0 0) from rfl)
  have qf0 := frozen_of_row _ (b + 1) 0 _ _ (Q9.out)
  have q1 := (cell_of_row _ (b + 1) 1 _ _ _ (Q9.out)).trans (show _ = some (.slice none 0 0) from rfl)
  have qf1 := frozen_of_row _ (b + 1) 1 _ _ (Q9.out)
  have q2 := (cell_of_row _ (b + 1) 2 _ _ _ (Q9.out)).trans (show _ = some (.slice none 0 0) from rfl)
  have qf2 := frozen_of_row _ (b + 1) 2 _ _ (Q9.out)
  have q3 := (cell_of_row _ (b + 1) 3 _ _ _ (Q9.out)).trans (show _ = some (.slice none 0 0) from rfl)
  have qf3 := frozen_of_row _ (b + 1) 3 _ _ (Q9.out)
  go_wp2
  obtain ⟨Wa, hWa⟩ : ∃ Wa, Wa = set9 W0 b (.int .i64 0) (.int .i64 0) (.int .i64 0) (.int .i64 0) (.slice none 0 0) (.slice none 0 0) (.slice none 0 0) (.slice none 0 0) (.slice none 0 0) := ⟨_, rfl⟩
  obtain ⟨Wb, hWb⟩ : ∃ Wb, Wb = set4 Wa (b + 1) (.slice none 0 0) (.slice none 0 0) (.slice none 0 0) (.slice none 0 0) := ⟨_, rfl⟩
  have fa : Fr (fun k => k = b) W0 Wa := by rw [hWa]; exact set9_fr W0 b (.int .i64 0) (.int .i64 0) (.int .i64 0) (.int .i64 0) (.slice none 0 0) (.slice none 0 0) (.slice none 0 0) (.slice none 0 0) (.slice none 0 0)
  have fb : Fr (fun k => k = b + 1) Wa Wb := by rw [hWb]; exact set4_fr Wa (b + 1) (.slice none 0 0) (.slice none 0 0) (.slice none 0 0) (.slice none 0 0)
  have ra : Wa.heap[b]? = some (.cells #[.int .i64 0, .int .i64 0, .int .i64 0, .int .i64 0, .slice none 0 0, .slice none 0 0, .slice none 0 0, .slice none 0 0, .slice none 0 0] 36 (0, 0)) := by rw [hWa]; exact set9_row (.int .i64 0) (.int .i64 0) (.int .i64 0) (.int .i64 0) (.slice none 0 0) (.slice none 0 0) (.slice none 0 0) (.slice none 0 0) (.slice none 0 0) P9.out
  have rb : Wb.heap[b + 1]? = some (.cells #[.slice none 0 0, .slice none 0 0, .slice none 0 0, .slice none 0 0] 42 (0, 0)) := by rw [hWb]; exact set4_row (.slice none 0 0) (.slice none 0 0) (.slice none 0 0) (.slice none 0 0) (fa.heapAt Q9.out (by omega))
  obtain ⟨Wf, hWf⟩ : ∃ Wf, Wf = Wb := ⟨_, rfl⟩
  have rowS : Wf.heap[b]? = some (.cells #[.int .i64 0, .int .i64 0, .int .i64 0, .int .i64 0, .slice none 0 0, .slice none 0 0, .slice none 0 0, .slice none 0 0, .slice none 0 0] 36 (0, 0)) := by rw [hWf]; exact fb.heapAt ra (by omega)
  have rowV : Wf.heap[b + 1]? = some (.cells #[.slice none 0 0, .slice none 0 0, .slice none 0 0, .slice none 0 0] 42 (0, 0)) := by rw [hWf]; exact rb
  have hfr : Fr (fun k => k = b ∨ k = b + 1) W0 Wf := by rw [hWf]; exact ((fa.mono (fun _ _ e => .inl e)).trans (fb.mono (fun _ _ e => .inr e)))
  clear fa fb ra rb
  have o0 := (cell_of_row _ b 0 _ _ _ (rowS)).trans (show _ = some (.int .i64 0) from rfl)
  have o1 := (cell_of_row _ b 1 _ _ _ (rowS)).trans (show _ = some (.int .i64 0) from rfl)
  have o2 := (cell_of_row _ b 2 _ _ _ (rowS)).trans (show _ = some (.int .i64 0) from rfl)
  have o3 := (cell_of_row _ b 3 _ _ _ (rowS)).trans (show _ = some (.int .i64 0) from rfl)
  have o4 := (cell_of_row _ b 4 _ _ _ (rowS)).trans (show _ = some (.slice none 0 0) from rfl)
  have o5 := (cell_of_row _ b 5 _ _ _ (rowS)).trans (show _ = some (.slice none 0 0) from rfl)
  have o6 := (cell_of_row _ b 6 _ _ _ (rowS)).trans (show _ = some (.slice none 0 0) from rfl)
  have o7 := (cell_of_row _ b 7 _ _ _ (rowS)).trans (show _ = some (.slice none 0 0) from rfl)
  have o8 := (cell_of_row _ b 8 _ _ _ (rowS)).trans (show _ = some (.slice none 0 0) from rfl)
  have u0 := (cell_of_row _ (b + 1) 0 _ _ _ (rowV)).trans (show _ = some (.slice none 0 0) from rfl)
  have u1 := (cell_of_row _ (b + 1) 1 _ _ _ (rowV)).trans (show _ = some (.slice none 0 0) from rfl)
  have u2 := (cell_of_row _ (b + 1) 2 _ _ _ (rowV)).trans (show _ = some (.slice none 0 0) from rfl)
  have u3 := (cell_of_row _ (b + 1) 3 _ _ _ (rowV)).trans (show _ = some (.slice none 0 0) from rfl)
  unfold set9 at hWa
  unfold set4 at hWb
  rw [← hWa, ← hWb, ← hWf]
  clear hWa hWb hWf
  refine bodyPost_ret (v := .tuple #[.agg #[.int .i64 0, .int .i64 0, .int .i64 0, .int .i64 0, .slice none 0 0, .slice none 0 0, .slice none 0 0, .slice none 0 0, .slice none 0 0], .agg #[.slice none 0 0, .slice none 0 0, .slice none 0 0, .slice none 0 0], .int .i64 1]) (by simp [results, Tryz.results8, go_sem, o0, o1, o2, o3, o4, o5, o6, o7, o8, u0, u1, u2, u3]) rfl ⟨rfl, ?_⟩
  have hnw := HN.out
  exact HB.out.trans (((Below.refl W0.heap.size W0).mono HB.out.size).trans (hfr.below (B := w.heap.size) (by have := HB.out.size; have := (Below.refl W0.heap.size W0).size; omega) (fun k hk e => by omega)))

set_option maxRecDepth 100000 in
set_option maxHeartbeats 4000000 in
theorem sread_no (w : World) (dv : Value) (hp : Pow w) (n : Int) (hn9 : numberB n = true) (D : List UInt8) (code : Int) (hc : code ≠ 0) (hd : Reads w dv (snapName n) D code) :
    Calls Tryz.prog 8 #[dv, .int .i64 n] w fun e w' => e = .returned (.tuple #[.agg #[.int .i64 0, .int .i64 0, .int .i64 0, .int .i64 0, .slice none 0 0, .slice none 0 0, .slice none 0 0, .slice none 0 0, .slice none 0 0], .agg #[.slice none 0 0, .slice none 0 0, .slice none 0 0, .slice none 0 0], .int .i64 code]) ∧ Below w.heap.size w w' := by
  have HD := Lib.hid hd
  have hcf : (code == 0) = false := by simpa using hc
  have hct : (code != 0) = true := by simpa using hc
  clear hd
  go_enter Tryz.func8, Tryz.ntmps8
  go_wp2_with fail
  obtain ⟨b, hn⟩ : ∃ b, b = w.heap.size := ⟨_, rfl⟩
  obtain ⟨W0, hW0⟩ : ∃ W0, W0 = (w.alloc (.cells #[.int .i64 0, .int .i64 0, .int .i64 0, .int .i64 0, .slice none 0 0, .slice none 0 0, .slice none 0 0, .slice none 0 0, .slice none 0 0] 36)).alloc (.cells #[.slice none 0 0, .slice none 0 0, .slice none 0 0, .slice none 0 0] 42) := ⟨_, rfl⟩
  have hbel : Below w.heap.size w W0 := by rw [hW0]; exact ((Below.refl _ _).alloc (Nat.le_refl _) _).alloc (by simp) _
  have k0 : W0.heap[b]? = some (.cells #[.int .i64 0, .int .i64 0, .int .i64 0, .int .i64 0, .slice none 0 0, .slice none 0 0, .slice none 0 0, .slice none 0 0, .slice none 0 0] 36 (0, 0)) := by rw [hW0, hn]; exact (Below.heap_alloc _ _ _ (by simp <;> omega)).trans (heap_alloc_new _ _)
  have k1 : W0.heap[b + 1]? = some (.cells #[.slice none 0 0, .slice none 0 0, .slice none 0 0, .slice none 0 0] 42 (0, 0)) := by rw [hW0, hn]; exact alloc_topY _ _ (by simp)
  have K0 := Lib.hid k0
  have K1 := Lib.hid k1
  have HB := Lib.hid hbel
  have HN := Lib.hid hn
  rw [← hW0, ← hn]
  clear hW0 hn k0 k1 hbel
  refine (snumber_any W0 n).mono ?_
  rintro e w1 ⟨rfl, rfl⟩
  rw [hn9]
  go_wp2_with fail
  refine (sname_any W0 (below_pow HB.out hp) n).mono ?_
  rintro e w1 ⟨⟨r, hr, rfl⟩, hb1⟩
  have B1 := Lib.hid hb1
  have HR := Lib.hid hr
  clear hb1 hr
  go_wp2_with fail
  refine (HD.out w1 r (HB.out.trans (B1.out.mono HB.out.size)) HR.out).mono ?_
  rintro e w2 ⟨⟨d, hd, rfl⟩, hb2⟩
  have B2 := Lib.hid (below_on B1.out hb2)
  have HDD := Lib.hid hd
  clear hb2 hd
  have P9 := Lib.hid ((B2.out.block _ (lt_of_block K0.out)).trans K0.out)
  have Q9 := Lib.hid ((B2.out.block _ (lt_of_block K1.out)).trans K1.out)
  have p0 := (cell_of_row _ b 0 _ _ _ (P9.out)).trans (show _ = some (.int .i64 0) from rfl)
  have pf0 := frozen_of_row _ b 0 _ _ (P9.out)
  have p1 := (cell_of_row _ b 1 _ _ _ (P9.out)).trans (show _ = some (.int .i64 0) from rfl)
  have pf1 := frozen_of_row _ b 1 _ _ (P9.out)
  have p2 := (cell_of_row _ b 2 _ _ _ (P9.out)).trans (show _ = some (.int .i64 0) from rfl)
  have pf2 := frozen_of_row _ b 2 _ _ (P9.out)
  have p3 := (cell_of_row _ b 3 _ _ _ (P9.out)).trans (show _ = some (.int .i64 0) from rfl)
  have pf3 := frozen_of_row _ b 3 _ _ (P9.out)
  have p4 := (cell_of_row _ b 4 _ _ _ (P9.out)).trans (show _ = some (.slice none 0 0) from rfl)
  have pf4 := frozen_of_row _ b 4 _ _ (P9.out)
  have p5 := (cell_of_row _ b 5 _ _ _ (P9.out)).trans (show _ = some (.slice none 0 0) from rfl)
  have pf5 := frozen_of_row _ b 5 _ _ (P9.out)
  have p6 := (cell_of_row _ b 6 _ _ _ (P9.out)).trans (show _ = some (.slice none 0 0) from rfl)
  have pf6 := frozen_of_row _ b 6 _ _ (P9.out)
  have p7 := (cell_of_row _ b 7 _ _ _ (P9.out)).trans (show _ = some (.slice none 0 0) from rfl)
  have pf7 := frozen_of_row _ b 7 _ _ (P9.out)
  have p8 := (cell_of_row _ b 8 _ _ _ (P9.out)).trans (show _ = some (.slice none 0 0) from rfl)
  have pf8 := frozen_of_row _ b 8 _ _ (P9.out)
  have q0 := (cell_of_row _ (b + 1) 0 _ _ _ (Q9.out)).trans (show _ = some (.slice none 0 0) from rfl)
  have qf0 := frozen_of_row _ (b + 1) 0 _ _ (Q9.out)
  have q1 := (cell_of_row _ (b + 1) 1 _ _ _ (Q9.out)).trans (show _ = some (.slice none 0 0) from rfl)
  have qf1 := frozen_of_row _ (b + 1) 1 _ _ (Q9.out)
  have q2 := (cell_of_row _ (b + 1) 2 _ _ _ (Q9.out)).trans (show _ = some (.slice none 0 0) from rfl)
  have qf2 := frozen_of_row _ (b + 1) 2 _ _ (Q9.out)
  have q3 := (cell_of_row _ (b + 1) 3 _ _ _ (Q9.out)).trans (show _ = some (.slice none 0 0) from rfl)
  have qf3 := frozen_of_row _ (b + 1) 3 _ _ (Q9.out)
  go_wp2
  obtain ⟨Wa, hWa⟩ : ∃ Wa, Wa = set9 w2 b (.int .i64 0) (.int .i64 0) (.int .i64 0) (.int .i64 0) (.slice none 0 0) (.slice none 0 0) (.slice none 0 0) (.slice none 0 0) (.slice none 0 0) := ⟨_, rfl⟩
  obtain ⟨Wb, hWb⟩ : ∃ Wb, Wb = set4 Wa (b + 1) (.slice none 0 0) (.slice none 0 0) (.slice none 0 0) (.slice none 0 0) := ⟨_, rfl⟩
  have fa : Fr (fun k => k = b) w2 Wa := by rw [hWa]; exact set9_fr w2 b (.int .i64 0) (.int .i64 0) (.int .i64 0) (.int .i64 0) (.slice none 0 0) (.slice none 0 0) (.slice none 0 0) (.slice none 0 0) (.slice none 0 0)
  have fb : Fr (fun k => k = b + 1) Wa Wb := by rw [hWb]; exact set4_fr Wa (b + 1) (.slice none 0 0) (.slice none 0 0) (.slice none 0 0) (.slice none 0 0)
  have ra : Wa.heap[b]? = some (.cells #[.int .i64 0, .int .i64 0, .int .i64 0, .int .i64 0, .slice none 0 0, .slice none 0 0, .slice none 0 0, .slice none 0 0, .slice none 0 0] 36 (0, 0)) := by rw [hWa]; exact set9_row (.int .i64 0) (.int .i64 0) (.int .i64 0) (.int .i64 0) (.slice none 0 0) (.slice none 0 0) (.slice none 0 0) (.slice none 0 0) (.slice none 0 0) P9.out
  have rb : Wb.heap[b + 1]? = some (.cells #[.slice none 0 0, .slice none 0 0, .slice none 0 0, .slice none 0 0] 42 (0, 0)) := by rw [hWb]; exact set4_row (.slice none 0 0) (.slice none 0 0) (.slice none 0 0) (.slice none 0 0) (fa.heapAt Q9.out (by omega))
  obtain ⟨Wf, hWf⟩ : ∃ Wf, Wf = Wb := ⟨_, rfl⟩
  have rowS : Wf.heap[b]? = some (.cells #[.int .i64 0, .int .i64 0, .int .i64 0, .int .i64 0, .slice none 0 0, .slice none 0 0, .slice none 0 0, .slice none 0 0, .slice none 0 0] 36 (0, 0)) := by rw [hWf]; exact fb.heapAt ra (by omega)
  have rowV : Wf.heap[b + 1]? = some (.cells #[.slice none 0 0, .slice none 0 0, .slice none 0 0, .slice none 0 0] 42 (0, 0)) := by rw [hWf]; exact rb
  have hfr : Fr (fun k => k = b ∨ k = b + 1) w2 Wf := by rw [hWf]; exact ((fa.mono (fun _ _ e => .inl e)).trans (fb.mono (fun _ _ e => .inr e)))
  clear fa fb ra rb
  have o0 := (cell_of_row _ b 0 _ _ _ (rowS)).trans (show _ = some (.int .i64 0) from rfl)
  have o1 := (cell_of_row _ b 1 _ _ _ (rowS)).trans (show _ = some (.int .i64 0) from rfl)
  have o2 := (cell_of_row _ b 2 _ _ _ (rowS)).trans (show _ = some (.int .i64 0) from rfl)
  have o3 := (cell_of_row _ b 3 _ _ _ (rowS)).trans (show _ = some (.int .i64 0) from rfl)
  have o4 := (cell_of_row _ b 4 _ _ _ (rowS)).trans (show _ = some (.slice none 0 0) from rfl)
  have o5 := (cell_of_row _ b 5 _ _ _ (rowS)).trans (show _ = some (.slice none 0 0) from rfl)
  have o6 := (cell_of_row _ b 6 _ _ _ (rowS)).trans (show _ = some (.slice none 0 0) from rfl)
  have o7 := (cell_of_row _ b 7 _ _ _ (rowS)).trans (show _ = some (.slice none 0 0) from rfl)
  have o8 := (cell_of_row _ b 8 _ _ _ (rowS)).trans (show _ = some (.slice none 0 0) from rfl)
  have u0 := (cell_of_row _ (b + 1) 0 _ _ _ (rowV)).trans (show _ = some (.slice none 0 0) from rfl)
  have u1 := (cell_of_row _ (b + 1) 1 _ _ _ (rowV)).trans (show _ = some (.slice none 0 0) from rfl)
  have u2 := (cell_of_row _ (b + 1) 2 _ _ _ (rowV)).trans (show _ = some (.slice none 0 0) from rfl)
  have u3 := (cell_of_row _ (b + 1) 3 _ _ _ (rowV)).trans (show _ = some (.slice none 0 0) from rfl)
  unfold set9 at hWa
  unfold set4 at hWb
  rw [← hWa, ← hWb, ← hWf]
  clear hWa hWb hWf
  refine bodyPost_ret (v := .tuple #[.agg #[.int .i64 0, .int .i64 0, .int .i64 0, .int .i64 0, .slice none 0 0, .slice none 0 0, .slice none 0 0, .slice none 0 0, .slice none 0 0], .agg #[.slice none 0 0, .slice none 0 0, .slice none 0 0, .slice none 0 0], .int .i64 code]) (by simp [results, Tryz.results8, go_sem, o0, o1, o2, o3, o4, o5, o6, o7, o8, u0, u1, u2, u3]) rfl ⟨rfl, ?_⟩
  have hnw := HN.out
  exact HB.out.trans ((B2.out.mono HB.out.size).trans (hfr.below (B := w.heap.size) (by have := HB.out.size; have := B2.out.size; omega) (fun k hk e => by omega)))

set_option maxRecDepth 100000 in
set_option maxHeartbeats 4000000 in
theorem sread_short (w : World) (dv : Value) (hp : Pow w) (n : Int) (hn9 : numberB n = true) (hd : Reads w dv (snapName n) [] 0) :
    Calls Tryz.prog 8 #[dv, .int .i64 n] w fun e w' => e = .returned (.tuple #[.agg #[.int .i64 0, .int .i64 0, .int .i64 0, .int .i64 0, .slice none 0 0, .slice none 0 0, .slice none 0 0, .slice none 0 0, .slice none 0 0], .agg #[.slice none 0 0, .slice none 0 0, .slice none 0 0, .slice none 0 0], .int .i64 8]) ∧ Below w.heap.size w w' := by
  have HD := Lib.hid hd
  clear hd
  go_enter Tryz.func8, Tryz.ntmps8
  go_wp2_with fail
  obtain ⟨b, hn⟩ : ∃ b, b = w.heap.size := ⟨_, rfl⟩
  obtain ⟨W0, hW0⟩ : ∃ W0, W0 = (w.alloc (.cells #[.int .i64 0, .int .i64 0, .int .i64 0, .int .i64 0, .slice none 0 0, .slice none 0 0, .slice none 0 0, .slice none 0 0, .slice none 0 0] 36)).alloc (.cells #[.slice none 0 0, .slice none 0 0, .slice none 0 0, .slice none 0 0] 42) := ⟨_, rfl⟩
  have hbel : Below w.heap.size w W0 := by rw [hW0]; exact ((Below.refl _ _).alloc (Nat.le_refl _) _).alloc (by simp) _
  have k0 : W0.heap[b]? = some (.cells #[.int .i64 0, .int .i64 0, .int .i64 0, .int .i64 0, .slice none 0 0, .slice none 0 0, .slice none 0 0, .slice none 0 0, .slice none 0 0] 36 (0, 0)) := by rw [hW0, hn]; exact (Below.heap_alloc _ _ _ (by simp <;> omega)).trans (heap_alloc_new _ _)
  have k1 : W0.heap[b + 1]? = some (.cells #[.slice none 0 0, .slice none 0 0, .slice none 0 0, .slice none 0 0] 42 (0, 0)) := by rw [hW0, hn]; exact alloc_topY _ _ (by simp)
  have K0 := Lib.hid k0
  have K1 := Lib.hid k1
  have HB := Lib.hid hbel
  have HN := Lib.hid hn
  rw [← hW0, ← hn]
  clear hW0 hn k0 k1 hbel
  refine (snumber_any W0 n).mono ?_
  rintro e w1 ⟨rfl, rfl⟩
  rw [hn9]
  go_wp2_with fail
  refine (sname_any W0 (below_pow HB.out hp) n).mono ?_
  rintro e w1 ⟨⟨r, hr, rfl⟩, hb1⟩
  have B1 := Lib.hid hb1
  have HR := Lib.hid hr
  clear hb1 hr
  go_wp2_with fail
  refine (HD.out w1 r (HB.out.trans (B1.out.mono HB.out.size)) HR.out).mono ?_
  rintro e w2 ⟨⟨d, hd, rfl⟩, hb2⟩
  have B2 := Lib.hid (below_on B1.out hb2)
  have HDD := Lib.hid hd
  clear hb2 hd
  go_wp2_with fail
  refine (sopen_short w2 d (by rw [size_of_list HDD.out]; decide)).mono ?_
  rintro e w3 ⟨rfl, hb3⟩
  have B4 := Lib.hid (below_on B2.out hb3)
  have hl3 : b + 1 < w3.heap.size := by have := lt_of_block K1.out; have := B4.out.size; omega
  have hl4 : b < w3.heap.size := by omega
  clear hb3
  have P3 := (B4.out.block _ (lt_of_block K0.out)).trans K0.out
  have Q3 := (B4.out.block _ (lt_of_block K1.out)).trans K1.out
  have p0 := (cell_of_row _ b 0 _ _ _ (P3)).trans (show _ = some (.int .i64 0) from rfl)
  have pf0 := frozen_of_row _ b 0 _ _ (P3)
  have p1 := (cell_of_row _ b 1 _ _ _ (P3)).trans (show _ = some (.int .i64 0) from rfl)
  have pf1 := frozen_of_row _ b 1 _ _ (P3)
  have p2 := (cell_of_row _ b 2 _ _ _ (P3)).trans (show _ = some (.int .i64 0) from rfl)
  have pf2 := frozen_of_row _ b 2 _ _ (P3)
  have p3 := (cell_of_row _ b 3 _ _ _ (P3)).trans (show _ = some (.int .i64 0) from rfl)
  have pf3 := frozen_of_row _ b 3 _ _ (P3)
  have p4 := (cell_of_row _ b 4 _ _ _ (P3)).trans (show _ = some (.slice none 0 0) from rfl)
  have pf4 := frozen_of_row _ b 4 _ _ (P3)
  have p5 := (cell_of_row _ b 5 _ _ _ (P3)).trans (show _ = some (.slice none 0 0) from rfl)
  have pf5 := frozen_of_row _ b 5 _ _ (P3)
  have p6 := (cell_of_row _ b 6 _ _ _ (P3)).trans (show _ = some (.slice none 0 0) from rfl)
  have pf6 := frozen_of_row _ b 6 _ _ (P3)
  have p7 := (cell_of_row _ b 7 _ _ _ (P3)).trans (show _ = some (.slice none 0 0) from rfl)
  have pf7 := frozen_of_row _ b 7 _ _ (P3)
  have p8 := (cell_of_row _ b 8 _ _ _ (P3)).trans (show _ = some (.slice none 0 0) from rfl)
  have pf8 := frozen_of_row _ b 8 _ _ (P3)
  have q0 := (cell_of_row _ (b + 1) 0 _ _ _ (Q3)).trans (show _ = some (.slice none 0 0) from rfl)
  have qf0 := frozen_of_row _ (b + 1) 0 _ _ (Q3)
  have q1 := (cell_of_row _ (b + 1) 1 _ _ _ (Q3)).trans (show _ = some (.slice none 0 0) from rfl)
  have qf1 := frozen_of_row _ (b + 1) 1 _ _ (Q3)
  have q2 := (cell_of_row _ (b + 1) 2 _ _ _ (Q3)).trans (show _ = some (.slice none 0 0) from rfl)
  have qf2 := frozen_of_row _ (b + 1) 2 _ _ (Q3)
  have q3 := (cell_of_row _ (b + 1) 3 _ _ _ (Q3)).trans (show _ = some (.slice none 0 0) from rfl)
  have qf3 := frozen_of_row _ (b + 1) 3 _ _ (Q3)
  have P3x := Lib.hid P3
  have Q3x := Lib.hid Q3
  unfold stZ viewsV
  go_wp2
  obtain ⟨Wa, hWa⟩ : ∃ Wa, Wa = set9 w3 b (.int .i64 0) (.int .i64 0) (.int .i64 0) (.int .i64 0) (.slice none 0 0) (.slice none 0 0) (.slice none 0 0) (.slice none 0 0) (.slice none 0 0) := ⟨_, rfl⟩
  obtain ⟨Wb, hWb⟩ : ∃ Wb, Wb = set4 Wa (b + 1) (.slice none 0 0) (.slice none 0 0) (.slice none 0 0) (.slice none 0 0) := ⟨_, rfl⟩
  have fa : Fr (fun k => k = b) w3 Wa := by rw [hWa]; exact set9_fr w3 b (.int .i64 0) (.int .i64 0) (.int .i64 0) (.int .i64 0) (.slice none 0 0) (.slice none 0 0) (.slice none 0 0) (.slice none 0 0) (.slice none 0 0)
  have fb : Fr (fun k => k = b + 1) Wa Wb := by rw [hWb]; exact set4_fr Wa (b + 1) (.slice none 0 0) (.slice none 0 0) (.slice none 0 0) (.slice none 0 0)
  have ra : Wa.heap[b]? = some (.cells #[.int .i64 0, .int .i64 0, .int .i64 0, .int .i64 0, .slice none 0 0, .slice none 0 0, .slice none 0 0, .slice none 0 0, .slice none 0 0] 36 (0, 0)) := by rw [hWa]; exact set9_row (.int .i64 0) (.int .i64 0) (.int .i64 0) (.int .i64 0) (.slice none 0 0) (.slice none 0 0) (.slice none 0 0) (.slice none 0 0) (.slice none 0 0) P3x.out
  have rb : Wb.heap[b + 1]? = some (.cells #[.slice none 0 0, .slice none 0 0, .slice none 0 0, .slice none 0 0] 42 (0, 0)) := by rw [hWb]; exact set4_row (.slice none 0 0) (.slice none 0 0) (.slice none 0 0) (.slice none 0 0) (fa.heapAt Q3x.out (by omega))
  obtain ⟨Wf, hWf⟩ : ∃ Wf, Wf = (Wb.alloc (.cells #[.int .i64 0, .int .i64 0, .int .i64 0, .int .i64 0, .slice none 0 0, .slice none 0 0, .slice none 0 0, .slice none 0 0, .slice none 0 0] 36)).alloc (.cells #[.slice none 0 0, .slice none 0 0, .slice none 0 0, .slice none 0 0] 42) := ⟨_, rfl⟩
  have hbf : Below Wb.heap.size Wb Wf := by rw [hWf]; exact ((Below.refl _ _).alloc (Nat.le_refl _) _).alloc (by simp) _
  have rowS : Wf.heap[b]? = some (.cells #[.int .i64 0, .int .i64 0, .int .i64 0, .int .i64 0, .slice none 0 0, .slice none 0 0, .slice none 0 0, .slice none 0 0, .slice none 0 0] 36 (0, 0)) := (hbf.block _ (lt_of_block (fb.heapAt ra (by omega)))).trans (fb.heapAt ra (by omega))
  have rowV : Wf.heap[b + 1]? = some (.cells #[.slice none 0 0, .slice none 0 0, .slice none 0 0, .slice none 0 0] 42 (0, 0)) := (hbf.block _ (lt_of_block rb)).trans rb
  have hfr : Fr (fun k => k = b ∨ k = b + 1) w3 Wf := ((fa.mono (fun _ _ e => .inl e)).trans (fb.mono (fun _ _ e => .inr e))).andPure hbf
  clear fa fb ra rb
  have o0 := (cell_of_row _ b 0 _ _ _ (rowS)).trans (show _ = some (.int .i64 0) from rfl)
  have o1 := (cell_of_row _ b 1 _ _ _ (rowS)).trans (show _ = some (.int .i64 0) from rfl)
  have o2 := (cell_of_row _ b 2 _ _ _ (rowS)).trans (show _ = some (.int .i64 0) from rfl)
  have o3 := (cell_of_row _ b 3 _ _ _ (rowS)).trans (show _ = some (.int .i64 0) from rfl)
  have o4 := (cell_of_row _ b 4 _ _ _ (rowS)).trans (show _ = some (.slice none 0 0) from rfl)
  have o5 := (cell_of_row _ b 5 _ _ _ (rowS)).trans (show _ = some (.slice none 0 0) from rfl)
  have o6 := (cell_of_row _ b 6 _ _ _ (rowS)).trans (show _ = some (.slice none 0 0) from rfl)
  have o7 := (cell_of_row _ b 7 _ _ _ (rowS)).trans (show _ = some (.slice none 0 0) from rfl)
  have o8 := (cell_of_row _ b 8 _ _ _ (rowS)).trans (show _ = some (.slice none 0 0) from rfl)
  have u0 := (cell_of_row _ (b + 1) 0 _ _ _ (rowV)).trans (show _ = some (.slice none 0 0) from rfl)
  have u1 := (cell_of_row _ (b + 1) 1 _ _ _ (rowV)).trans (show _ = some (.slice none 0 0) from rfl)
  have u2 := (cell_of_row _ (b + 1) 2 _ _ _ (rowV)).trans (show _ = some (.slice none 0 0) from rfl)
  have u3 := (cell_of_row _ (b + 1) 3 _ _ _ (rowV)).trans (show _ = some (.slice none 0 0) from rfl)
  unfold set9 at hWa
  unfold set4 at hWb
  rw [← hWa, ← hWb, ← hWf]
  clear hWa hWb hWf
  refine bodyPost_ret (v := .tuple #[.agg #[.int .i64 0, .int .i64 0, .int .i64 0, .int .i64 0, .slice none 0 0, .slice none 0 0, .slice none 0 0, .slice none 0 0, .slice none 0 0], .agg #[.slice none 0 0, .slice none 0 0, .slice none 0 0, .slice none 0 0], .int .i64 8]) (by simp [results, Tryz.results8, go_sem, o0, o1, o2, o3, o4, o5, o6, o7, o8, u0, u1, u2, u3]) rfl ⟨rfl, ?_⟩
  have hnw := HN.out
  exact HB.out.trans ((B4.out.mono HB.out.size).trans (hfr.below (B := w.heap.size) (by have := HB.out.size; have := B4.out.size; omega) (fun k hk e => by omega)))

set_option maxRecDepth 100000 in
set_option maxHeartbeats 4000000 in
theorem sread_ok (w : World) (dv : Value) (hp : Pow w) (q c : Nat) (hq : q ≤ 1048576) (hcc : c < 128) (hd : Reads w dv (snapName (q : Int)) (emptyF q c) 0) :
    Calls Tryz.prog 8 #[dv, .int .i64 (q : Int)] w fun e w' => e = .returned (.tuple #[stV (c : Int) 0 1 1, viewsV, .int .i64 0]) ∧ Below w.heap.size w w' := by
  obtain ⟨n, hnq⟩ : ∃ n : Int, n = (q : Int) := ⟨_, rfl⟩
  rw [← hnq] at hd ⊢
  have hn9 : numberB n = true := by rw [hnq]; unfold numberB; simp; omega
  have HD := Lib.hid hd
  have HNQ := Lib.hid hnq
  clear hd hnq
  go_enter Tryz.func8, Tryz.ntmps8
  go_wp2_with fail
  obtain ⟨b, hn⟩ : ∃ b, b = w.heap.size := ⟨_, rfl⟩
  obtain ⟨W0, hW0⟩ : ∃ W0, W0 = (w.alloc (.cells #[.int .i64 0, .int .i64 0, .int .i64 0, .int .i64 0, .slice none 0 0, .slice none 0 0, .slice none 0 0, .slice none 0 0, .slice none 0 0] 36)).alloc (.cells #[.slice none 0 0, .slice none 0 0, .slice none 0 0, .slice none 0 0] 42) := ⟨_, rfl⟩
  have hbel : Below w.heap.size w W0 := by rw [hW0]; exact ((Below.refl _ _).alloc (Nat.le_refl _) _).alloc (by simp) _
  have k0 : W0.heap[b]? = some (.cells #[.int .i64 0, .int .i64 0, .int .i64 0, .int .i64 0, .slice none 0 0, .slice none 0 0, .slice none 0 0, .slice none 0 0, .slice none 0 0] 36 (0, 0)) := by rw [hW0, hn]; exact (Below.heap_alloc _ _ _ (by simp <;> omega)).trans (heap_alloc_new _ _)
  have k1 : W0.heap[b + 1]? = some (.cells #[.slice none 0 0, .slice none 0 0, .slice none 0 0, .slice none 0 0] 42 (0, 0)) := by rw [hW0, hn]; exact alloc_topY _ _ (by simp)
  have K0 := Lib.hid k0
  have K1 := Lib.hid k1
  have HB := Lib.hid hbel
  have HN := Lib.hid hn
  rw [← hW0, ← hn]
  clear hW0 hn k0 k1 hbel
  refine (snumber_any W0 n).mono ?_
  rintro e w1 ⟨rfl, rfl⟩
  rw [hn9]
  go_wp2_with fail
  refine (sname_any W0 (below_pow HB.out hp) n).mono ?_
  rintro e w1 ⟨⟨r, hr, rfl⟩, hb1⟩
  have B1 := Lib.hid hb1
  have HR := Lib.hid hr
  clear hb1 hr
  go_wp2_with fail
  refine (HD.out w1 r (HB.out.trans (B1.out.mono HB.out.size)) HR.out).mono ?_
  rintro e w2 ⟨⟨d, hd, rfl⟩, hb2⟩
  have B2 := Lib.hid (below_on B1.out hb2)
  have HDD := Lib.hid hd
  clear hb2 hd
  go_wp2_with fail
  refine (sopen_ok q c hq hcc w2 d HDD.out).mono ?_
  rw [← HNQ.out]
  rintro e w3 ⟨rfl, hb3⟩
  have B4 := Lib.hid (below_on B2.out hb3)
  have hl3 : b + 1 < w3.heap.size := by have := lt_of_block K1.out; have := B4.out.size; omega
  have hl4 : b < w3.heap.size := by omega
  clear hb3
  unfold stV viewsV
  go_wp2
  obtain ⟨W9, hW9⟩ : ∃ W9, W9 = (w3.alloc (.cells #[.int .i64 (c : Int), .int .i64 0, .int .i64 1, .int .i64 1, .slice none 0 0, .slice none 0 0, .slice none 0 0, .slice none 0 0, .slice none 0 0] 36)).alloc (.cells #[.slice none 0 0, .slice none 0 0, .slice none 0 0, .slice none 0 0] 42) := ⟨_, rfl⟩
  have hb9 : Below w3.heap.size w3 W9 := by rw [hW9]; exact ((Below.refl _ _).alloc (Nat.le_refl _) _).alloc (by simp) _
  have B9 := Lib.hid (below_on B4.out hb9)
  have P9 := Lib.hid ((B9.out.block _ (lt_of_block K0.out)).trans K0.out)
  have Q9 := Lib.hid ((B9.out.block _ (lt_of_block K1.out)).trans K1.out)
  have ks : W9.heap[w3.heap.size]? = some (.cells #[.int .i64 (c : Int), .int .i64 0, .int .i64 1, .int .i64 1, .slice none 0 0, .slice none 0 0, .slice none 0 0, .slice none 0 0, .slice none 0 0] 36 (0, 0)) := by rw [hW9]; exact (Below.heap_alloc _ _ _ (by simp)).trans (heap_alloc_new _ _)
  have kv : W9.heap[w3.heap.size + 1]? = some (.cells #[.slice none 0 0, .slice none 0 0, .slice none 0 0, .slice none 0 0] 42 (0, 0)) := by rw [hW9]; exact alloc_topY _ _ (by simp)
  rw [← hW9]
  clear hW9 hb9
  have x0 := (cell_of_row _ w3.heap.size 0 _ _ _ (ks)).trans (show _ = some (.int .i64 (c : Int)) from rfl)
  have x1 := (cell_of_row _ w3.heap.size 1 _ _ _ (ks)).trans (show _ = some (.int .i64 0) from rfl)
  have x2 := (cell_of_row _ w3.heap.size 2 _ _ _ (ks)).trans (show _ = some (.int .i64 1) from rfl)
  have x3 := (cell_of_row _ w3.heap.size 3 _ _ _ (ks)).trans (show _ = some (.int .i64 1) from rfl)
  have x4 := (cell_of_row _ w3.heap.size 4 _ _ _ (ks)).trans (show _ = some (.slice none 0 0) from rfl)
  have x5 := (cell_of_row _ w3.heap.size 5 _ _ _ (ks)).trans (show _ = some (.slice none 0 0) from rfl)
  have x6 := (cell_of_row _ w3.heap.size 6 _ _ _ (ks)).trans (show _ = some (.slice none 0 0) from rfl)
  have x7 := (cell_of_row _ w3.heap.size 7 _ _ _ (ks)).trans (show _ = some (.slice none 0 0) from rfl)
  have x8 := (cell_of_row _ w3.heap.size 8 _ _ _ (ks)).trans (show _ = some (.slice none 0 0) from rfl)
  have y0 := (cell_of_row _ (w3.heap.size + 1) 0 _ _ _ (kv)).trans (show _ = some (.slice none 0 0) from rfl)
  have y1 := (cell_of_row _ (w3.heap.size + 1) 1 _ _ _ (kv)).trans (show _ = some (.slice none 0 0) from rfl)
  have y2 := (cell_of_row _ (w3.heap.size + 1) 2 _ _ _ (kv)).trans (show _ = some (.slice none 0 0) from rfl)
  have y3 := (cell_of_row _ (w3.heap.size + 1) 3 _ _ _ (kv)).trans (show _ = some (.slice none 0 0) from rfl)
  have p0 := (cell_of_row _ b 0 _ _ _ (P9.out)).trans (show _ = some (.int .i64 0) from rfl)
  have pf0 := frozen_of_row _ b 0 _ _ (P9.out)
  have p1 := (cell_of_row _ b 1 _ _ _ (P9.out)).trans (show _ = some (.int .i64 0) from rfl)
  have pf1 := frozen_of_row _ b 1 _ _ (P9.out)
  have p2 := (cell_of_row _ b 2 _ _ _ (P9.out)).trans (show _ = some (.int .i64 0) from rfl)
  have pf2 := frozen_of_row _ b 2 _ _ (P9.out)
  have p3 := (cell_of_row _ b 3 _ _ _ (P9.out)).trans (show _ = some (.int .i64 0) from rfl)
  have pf3 := frozen_of_row _ b 3 _ _ (P9.out)
  have p4 := (cell_of_row _ b 4 _ _ _ (P9.out)).trans (show _ = some (.slice none 0 0) from rfl)
  have pf4 := frozen_of_row _ b 4 _ _ (P9.out)
  have p5 := (cell_of_row _ b 5 _ _ _ (P9.out)).trans (show _ = some (.slice none 0 0) from rfl)
  have pf5 := frozen_of_row _ b 5 _ _ (P9.out)
  have p6 := (cell_of_row _ b 6 _ _ _ (P9.out)).trans (show _ = some (.slice none 0 0) from rfl)
  have pf6 := frozen_of_row _ b 6 _ _ (P9.out)
  have p7 := (cell_of_row _ b 7 _ _ _ (P9.out)).trans (show _ = some (.slice none 0 0) from rfl)
  have pf7 := frozen_of_row _ b 7 _ _ (P9.out)
  have p8 := (cell_of_row _ b 8 _ _ _ (P9.out)).trans (show _ = some (.slice none 0 0) from rfl)
  have pf8 := frozen_of_row _ b 8 _ _ (P9.out)
  have q0 := (cell_of_row _ (b + 1) 0 _ _ _ (Q9.out)).trans (show _ = some (.slice none 0 0) from rfl)
  have qf0 := frozen_of_row _ (b + 1) 0 _ _ (Q9.out)
  have q1 := (cell_of_row _ (b + 1) 1 _ _ _ (Q9.out)).trans (show _ = some (.slice none 0 0) from rfl)
  have qf1 := frozen_of_row _ (b + 1) 1 _ _ (Q9.out)
  have q2 := (cell_of_row _ (b + 1) 2 _ _ _ (Q9.out)).trans (show _ = some (.slice none 0 0) from rfl)
  have qf2 := frozen_of_row _ (b + 1) 2 _ _ (Q9.out)
  have q3 := (cell_of_row _ (b + 1) 3 _ _ _ (Q9.out)).trans (show _ = some (.slice none 0 0) from rfl)
  have qf3 := frozen_of_row _ (b + 1) 3 _ _ (Q9.out)
  go_region
  go_wp2
  obtain ⟨Wa, hWa⟩ : ∃ Wa, Wa = set9 W9 b (.int .i64 (c : Int)) (.int .i64 0) (.int .i64 1) (.int .i64 1) (.slice none 0 0) (.slice none 0 0) (.slice none 0 0) (.slice none 0 0) (.slice none 0 0) := ⟨_, rfl⟩
  obtain ⟨Wb, hWb⟩ : ∃ Wb, Wb = set4 Wa (b + 1) (.slice none 0 0) (.slice none 0 0) (.slice none 0 0) (.slice none 0 0) := ⟨_, rfl⟩
  have fa : Fr (fun k => k = b) W9 Wa := by rw [hWa]; exact set9_fr W9 b (.int .i64 (c : Int)) (.int .i64 0) (.int .i64 1) (.int .i64 1) (.slice none 0 0) (.slice none 0 0) (.slice none 0 0) (.slice none 0 0) (.slice none 0 0)
  have fb : Fr (fun k => k = b + 1) Wa Wb := by rw [hWb]; exact set4_fr Wa (b + 1) (.slice none 0 0) (.slice none 0 0) (.slice none 0 0) (.slice none 0 0)
  have ra : Wa.heap[b]? = some (.cells #[.int .i64 (c : Int), .int .i64 0, .int .i64 1, .int .i64 1, .slice none 0 0, .slice none 0 0, .slice none 0 0, .slice none 0 0, .slice none 0 0] 36 (0, 0)) := by rw [hWa]; exact set9_row (.int .i64 (c : Int)) (.int .i64 0) (.int .i64 1) (.int .i64 1) (.slice none 0 0) (.slice none 0 0) (.slice none 0 0) (.slice none 0 0) (.slice none 0 0) P9.out
  have rb : Wb.heap[b + 1]? = some (.cells #[.slice none 0 0, .slice none 0 0, .slice none 0 0, .slice none 0 0] 42 (0, 0)) := by rw [hWb]; exact set4_row (.slice none 0 0) (.slice none 0 0) (.slice none 0 0) (.slice none 0 0) (fa.heapAt Q9.out (by omega))
  obtain ⟨Wf, hWf⟩ : ∃ Wf, Wf = Wb.drew := ⟨_, rfl⟩
  have rowS : Wf.heap[b]? = some (.cells #[.int .i64 (c : Int), .int .i64 0, .int .i64 1, .int .i64 1, .slice none 0 0, .slice none 0 0, .slice none 0 0, .slice none 0 0, .slice none 0 0] 36 (0, 0)) := by rw [hWf]; exact fb.heapAt ra (by omega)
  have rowV : Wf.heap[b + 1]? = some (.cells #[.slice none 0 0, .slice none 0 0, .slice none 0 0, .slice none 0 0] 42 (0, 0)) := by rw [hWf]; exact rb
  have hfr : Fr (fun k => k = b ∨ k = b + 1) W9 Wf := by rw [hWf]; exact (((fa.mono (fun _ _ e => .inl e)).trans (fb.mono (fun _ _ e => .inr e)))).drew
  clear fa fb ra rb
  have o0 := (cell_of_row _ b 0 _ _ _ (rowS)).trans (show _ = some (.int .i64 (c : Int)) from rfl)
  have o1 := (cell_of_row _ b 1 _ _ _ (rowS)).trans (show _ = some (.int .i64 0) from rfl)
  have o2 := (cell_of_row _ b 2 _ _ _ (rowS)).trans (show _ = some (.int .i64 1) from rfl)
  have o3 := (cell_of_row _ b 3 _ _ _ (rowS)).trans (show _ = some (.int .i64 1) from rfl)
  have o4 := (cell_of_row _ b 4 _ _ _ (rowS)).trans (show _ = some (.slice none 0 0) from rfl)
  have o5 := (cell_of_row _ b 5 _ _ _ (rowS)).trans (show _ = some (.slice none 0 0) from rfl)
  have o6 := (cell_of_row _ b 6 _ _ _ (rowS)).trans (show _ = some (.slice none 0 0) from rfl)
  have o7 := (cell_of_row _ b 7 _ _ _ (rowS)).trans (show _ = some (.slice none 0 0) from rfl)
  have o8 := (cell_of_row _ b 8 _ _ _ (rowS)).trans (show _ = some (.slice none 0 0) from rfl)
  have u0 := (cell_of_row _ (b + 1) 0 _ _ _ (rowV)).trans (show _ = some (.slice none 0 0) from rfl)
  have u1 := (cell_of_row _ (b + 1) 1 _ _ _ (rowV)).trans (show _ = some (.slice none 0 0) from rfl)
  have u2 := (cell_of_row _ (b + 1) 2 _ _ _ (rowV)).trans (show _ = some (.slice none 0 0) from rfl)
  have u3 := (cell_of_row _ (b + 1) 3 _ _ _ (rowV)).trans (show _ = some (.slice none 0 0) from rfl)
  unfold set9 at hWa
  unfold set4 at hWb
  rw [← hWa, ← hWb, ← hWf]
  clear hWa hWb hWf
  refine bodyPost_ret (v := .tuple #[.agg #[.int .i64 (c : Int), .int .i64 0, .int .i64 1, .int .i64 1, .slice none 0 0, .slice none 0 0, .slice none 0 0, .slice none 0 0, .slice none 0 0], .agg #[.slice none 0 0, .slice none 0 0, .slice none 0 0, .slice none 0 0], .int .i64 0]) (by simp [results, Tryz.results8, go_sem, o0, o1, o2, o3, o4, o5, o6, o7, o8, u0, u1, u2, u3]) rfl ⟨rfl, ?_⟩
  have hnw := HN.out
  exact HB.out.trans ((B9.out.mono HB.out.size).trans (hfr.below (B := w.heap.size) (by have := HB.out.size; have := B9.out.size; omega) (fun k hk e => by omega)))

end Go.Proofs.YteikdcobpfohcaaGreatDoor
