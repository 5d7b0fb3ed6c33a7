/- The walks of snap.many where there are none. -/
import Derived.Test.YteikdcobpfohcaaGreatDoorMFf
import Derived.Test.YteikdcobpfohcaaGreatDoorMkSxC
namespace Go.Proofs.YteikdcobpfohcaaGreatDoor
open Go.RowKit

set_option maxHeartbeats 400000 in
theorem many_account (fv : Value) (p : Nat) (v : Value) (L : List UInt8) (w : World) (h : IsWr w p v L) (hL : L.length ≤ 1000000) :
    Calls Tryz.prog 163 #[.pointer (some ⟨p, 0, none⟩), .slice none 0 0, fv] w fun e w' => e = .returned (.tuple #[]) ∧ ∃ v', WrTo p w w' v v' (L ++ [0]) := by
  have H := Lib.hid h
  clear h
  go_enter Tryz.func163, Tryz.ntmps163
  go_wp2_with fail
  refine (wr_short 0 p v L w (by omega) H.out (by omega)).mono ?_
  rintro e w1 ⟨rfl, v1, h1⟩
  rw [short_small (by omega)] at h1
  have H1 := Lib.hid h1
  clear h1
  go_wp2
  go_loopw [15] (fun i wr => i = .int .i64 0 ∧ wr = w1) (fun _ _ => 0)
  case atStart => exact ⟨rfl, rfl⟩
  case round =>
    obtain ⟨rfl, rfl⟩ := hrel
    go_wp2
    go_end0
    exact ⟨rfl, v1, H1.out⟩

set_option maxHeartbeats 400000 in
theorem many_instrument (fv : Value) (p : Nat) (v : Value) (L : List UInt8) (w : World) (h : IsWr w p v L) (hL : L.length ≤ 1000000) :
    Calls Tryz.prog 167 #[.pointer (some ⟨p, 0, none⟩), .slice none 0 0, fv] w fun e w' => e = .returned (.tuple #[]) ∧ ∃ v', WrTo p w w' v v' (L ++ [0]) := by
  have H := Lib.hid h
  clear h
  go_enter Tryz.func167, Tryz.ntmps167
  go_wp2_with fail
  refine (wr_short 0 p v L w (by omega) H.out (by omega)).mono ?_
  rintro e w1 ⟨rfl, v1, h1⟩
  rw [short_small (by omega)] at h1
  have H1 := Lib.hid h1
  clear h1
  go_wp2
  go_loopw [15] (fun i wr => i = .int .i64 0 ∧ wr = w1) (fun _ _ => 0)
  case atStart => exact ⟨rfl, rfl⟩
  case round =>
    obtain ⟨rfl, rfl⟩ := hrel
    go_wp2
    go_end0
    exact ⟨rfl, v1, H1.out⟩

set_option maxHeartbeats 400000 in
theorem many_row (fv : Value) (p : Nat) (v : Value) (L : List UInt8) (w : World) (h : IsWr w p v L) (hL : L.length ≤ 1000000) :
    Calls Tryz.prog 169 #[.pointer (some ⟨p, 0, none⟩), .slice none 0 0, fv] w fun e w' => e = .returned (.tuple #[]) ∧ ∃ v', WrTo p w w' v v' (L ++ [0]) := by
  have H := Lib.hid h
  clear h
  go_enter Tryz.func169, Tryz.ntmps169
  go_wp2_with fail
  refine (wr_short 0 p v L w (by omega) H.out (by omega)).mono ?_
  rintro e w1 ⟨rfl, v1, h1⟩
  rw [short_small (by omega)] at h1
  have H1 := Lib.hid h1
  clear h1
  go_wp2
  go_loopw [15] (fun i wr => i = .int .i64 0 ∧ wr = w1) (fun _ _ => 0)
  case atStart => exact ⟨rfl, rfl⟩
  case round =>
    obtain ⟨rfl, rfl⟩ := hrel
    go_wp2
    go_end0
    exact ⟨rfl, v1, H1.out⟩

set_option maxHeartbeats 400000 in
theorem many_order (fv : Value) (p : Nat) (v : Value) (L : List UInt8) (w : World) (h : IsWr w p v L) (hL : L.length ≤ 1000000) :
    Calls Tryz.prog 171 #[.pointer (some ⟨p, 0, none⟩), .slice none 0 0, fv] w fun e w' => e = .returned (.tuple #[]) ∧ ∃ v', WrTo p w w' v v' (L ++ [0]) := by
  have H := Lib.hid h
  clear h
  go_enter Tryz.func171, Tryz.ntmps171
  go_wp2_with fail
  refine (wr_short 0 p v L w (by omega) H.out (by omega)).mono ?_
  rintro e w1 ⟨rfl, v1, h1⟩
  rw [short_small (by omega)] at h1
  have H1 := Lib.hid h1
  clear h1
  go_wp2
  go_loopw [15] (fun i wr => i = .int .i64 0 ∧ wr = w1) (fun _ _ => 0)
  case atStart => exact ⟨rfl, rfl⟩
  case round =>
    obtain ⟨rfl, rfl⟩ := hrel
    go_wp2
    go_end0
    exact ⟨rfl, v1, H1.out⟩

set_option maxHeartbeats 400000 in
theorem many_auction (fv : Value) (p : Nat) (v : Value) (L : List UInt8) (w : World) (h : IsWr w p v L) (hL : L.length ≤ 1000000) :
    Calls Tryz.prog 174 #[.pointer (some ⟨p, 0, none⟩), .slice none 0 0, fv] w fun e w' => e = .returned (.tuple #[]) ∧ ∃ v', WrTo p w w' v v' (L ++ [0]) := by
  have H := Lib.hid h
  clear h
  go_enter Tryz.func174, Tryz.ntmps174
  go_wp2_with fail
  refine (wr_short 0 p v L w (by omega) H.out (by omega)).mono ?_
  rintro e w1 ⟨rfl, v1, h1⟩
  rw [short_small (by omega)] at h1
  have H1 := Lib.hid h1
  clear h1
  go_wp2
  go_loopw [15] (fun i wr => i = .int .i64 0 ∧ wr = w1) (fun _ _ => 0)
  case atStart => exact ⟨rfl, rfl⟩
  case round =>
    obtain ⟨rfl, rfl⟩ := hrel
    go_wp2
    go_end0
    exact ⟨rfl, v1, H1.out⟩

set_option maxHeartbeats 400000 in
theorem many_open (fv : Value) (p : Nat) (v : Value) (L : List UInt8) (w : World) (h : IsWr w p v L) (hL : L.length ≤ 1000000) :
    Calls Tryz.prog 178 #[.pointer (some ⟨p, 0, none⟩), .slice none 0 0, fv] w fun e w' => e = .returned (.tuple #[]) ∧ ∃ v', WrTo p w w' v v' (L ++ [0]) := by
  have H := Lib.hid h
  clear h
  go_enter Tryz.func178, Tryz.ntmps178
  go_wp2_with fail
  refine (wr_short 0 p v L w (by omega) H.out (by omega)).mono ?_
  rintro e w1 ⟨rfl, v1, h1⟩
  rw [short_small (by omega)] at h1
  have H1 := Lib.hid h1
  clear h1
  go_wp2
  go_loopw [15] (fun i wr => i = .int .i64 0 ∧ wr = w1) (fun _ _ => 0)
  case atStart => exact ⟨rfl, rfl⟩
  case round =>
    obtain ⟨rfl, rfl⟩ := hrel
    go_wp2
    go_end0
    exact ⟨rfl, v1, H1.out⟩

set_option maxHeartbeats 400000 in
theorem many_lot (fv : Value) (p : Nat) (v : Value) (L : List UInt8) (w : World) (h : IsWr w p v L) (hL : L.length ≤ 1000000) :
    Calls Tryz.prog 180 #[.pointer (some ⟨p, 0, none⟩), .slice none 0 0, fv] w fun e w' => e = .returned (.tuple #[]) ∧ ∃ v', WrTo p w w' v v' (L ++ [0]) := by
  have H := Lib.hid h
  clear h
  go_enter Tryz.func180, Tryz.ntmps180
  go_wp2_with fail
  refine (wr_short 0 p v L w (by omega) H.out (by omega)).mono ?_
  rintro e w1 ⟨rfl, v1, h1⟩
  rw [short_small (by omega)] at h1
  have H1 := Lib.hid h1
  clear h1
  go_wp2
  go_loopw [15] (fun i wr => i = .int .i64 0 ∧ wr = w1) (fun _ _ => 0)
  case atStart => exact ⟨rfl, rfl⟩
  case round =>
    obtain ⟨rfl, rfl⟩ := hrel
    go_wp2
    go_end0
    exact ⟨rfl, v1, H1.out⟩

set_option maxHeartbeats 400000 in
theorem many_position (fv : Value) (p : Nat) (v : Value) (L : List UInt8) (w : World) (h : IsWr w p v L) (hL : L.length ≤ 1000000) :
    Calls Tryz.prog 182 #[.pointer (some ⟨p, 0, none⟩), .slice none 0 0, fv] w fun e w' => e = .returned (.tuple #[]) ∧ ∃ v', WrTo p w w' v v' (L ++ [0]) := by
  have H := Lib.hid h
  clear h
  go_enter Tryz.func182, Tryz.ntmps182
  go_wp2_with fail
  refine (wr_short 0 p v L w (by omega) H.out (by omega)).mono ?_
  rintro e w1 ⟨rfl, v1, h1⟩
  rw [short_small (by omega)] at h1
  have H1 := Lib.hid h1
  clear h1
  go_wp2
  go_loopw [15] (fun i wr => i = .int .i64 0 ∧ wr = w1) (fun _ _ => 0)
  case atStart => exact ⟨rfl, rfl⟩
  case round =>
    obtain ⟨rfl, rfl⟩ := hrel
    go_wp2
    go_end0
    exact ⟨rfl, v1, H1.out⟩

set_option maxHeartbeats 400000 in
theorem many_line (fv : Value) (p : Nat) (v : Value) (L : List UInt8) (w : World) (h : IsWr w p v L) (hL : L.length ≤ 1000000) :
    Calls Tryz.prog 184 #[.pointer (some ⟨p, 0, none⟩), .slice none 0 0, fv] w fun e w' => e = .returned (.tuple #[]) ∧ ∃ v', WrTo p w w' v v' (L ++ [0]) := by
  have H := Lib.hid h
  clear h
  go_enter Tryz.func184, Tryz.ntmps184
  go_wp2_with fail
  refine (wr_short 0 p v L w (by omega) H.out (by omega)).mono ?_
  rintro e w1 ⟨rfl, v1, h1⟩
  rw [short_small (by omega)] at h1
  have H1 := Lib.hid h1
  clear h1
  go_wp2
  go_loopw [15] (fun i wr => i = .int .i64 0 ∧ wr = w1) (fun _ _ => 0)
  case atStart => exact ⟨rfl, rfl⟩
  case round =>
    obtain ⟨rfl, rfl⟩ := hrel
    go_wp2
    go_end0
    exact ⟨rfl, v1, H1.out⟩

end Go.Proofs.YteikdcobpfohcaaGreatDoor

/- The walks of snap.put and project, where there are none. -/
namespace Go.Proofs.YteikdcobpfohcaaGreatDoor
open Go.RowKit

theorem WrTo.under {p : Nat} {w W0 w' : World} {v v' : Value} {L : List UInt8} (hb : Below w.heap.size w W0) (h : WrTo p W0 w' v v' L) : WrTo p w w' v v' L :=
  ⟨h.is, (Fr.pure hb).then h.fr (fun _ _ e => e), h.went.older hb.size⟩
theorem IsWr.pure {w w' : World} {p : Nat} {v : Value} {L : List UInt8} (h : IsWr w p v L) (hb : Below w.heap.size w w') : IsWr w' p v L := h.kept (Fr.pure (S := fun _ => False) hb) (fun h => h) (fun _ _ h => h)

set_option maxRecDepth 100000 in
set_option maxHeartbeats 2000000 in
theorem put0 (c : Int) (p : Nat) (v : Value) (L : List UInt8) (w : World) (h : IsWr w p v L) (hL : L.length ≤ 100000) :
    Calls Tryz.prog 100 #[.pointer (some ⟨p, 0, none⟩), stV c 0 1 1] w fun e w' => e = .returned (.tuple #[]) ∧ ∃ v', WrTo p w w' v v' (L ++ (numsB [c, 0, 1, 1] ++ [0, 0, 0, 0, 0])) := by
  unfold stV
  have hmf : ∀ (fn : Fn) (first cap : Array Value) (w : World), (Instr.makeFunc fn first cap).run Tryz.prog w = .ok (.func fn first cap) w := fun _ _ _ _ => rfl
  have H := Lib.hid h
  have hp := h.lt
  have HO := Lib.hid (fun g (hg : v.ownBlock = some g) => h.lto hg)
  have hn4 := Lib.hid (numsB_len [c, 0, 1, 1])
  clear h
  go_enter Tryz.func100, Tryz.ntmps100
  go_wp2_with fail
  obtain ⟨n, hn⟩ : ∃ n, n = w.heap.size := ⟨_, rfl⟩
  obtain ⟨W0, hW0⟩ : ∃ W0, W0 = ((w.alloc (.cells #[.pointer (some ⟨p, 0, none⟩)] 119)).alloc (.cells #[.int .i64 c, .int .i64 0, .int .i64 1, .int .i64 1, .slice none 0 0, .slice none 0 0, .slice none 0 0, .slice none 0 0, .slice none 0 0] 36)).alloc (.cells #[.int .i64 c, .int .i64 0, .int .i64 1, .int .i64 1] 2) := ⟨_, rfl⟩
  have hbel : Below w.heap.size w W0 := by rw [hW0]; exact (((Below.refl _ _).alloc (Nat.le_refl _) _).alloc (by simp) _).alloc (by simp; omega) _
  have k0 : W0.heap[n]? = some (.cells #[.pointer (some ⟨p, 0, none⟩)] 119 (0, 0)) := by rw [hW0, hn]; exact (Below.heap_alloc _ _ _ (by simp; omega)).trans ((Below.heap_alloc _ _ _ (by simp)).trans (heap_alloc_new _ _))
  have k1 : W0.heap[n + 1]? = some (.cells #[.int .i64 c, .int .i64 0, .int .i64 1, .int .i64 1, .slice none 0 0, .slice none 0 0, .slice none 0 0, .slice none 0 0, .slice none 0 0] 36 (0, 0)) := by rw [hW0, hn]; exact (Below.heap_alloc _ _ _ (by simp)).trans (alloc_at_top _ _ (by simp))
  have k2 : W0.heap[n + 1 + 1]? = some (.cells #[.int .i64 c, .int .i64 0, .int .i64 1, .int .i64 1] 2 (0, 0)) := by rw [hW0, hn]; exact alloc_at_top _ _ (by simp)
  rw [← hW0]
  try rw [← hn]
  have hints : IntsAt W0 (.slice (some ⟨n + 1 + 1, 0, none⟩) 4 4) [c, 0, 1, 1] := ⟨_, 4, rfl, by simp, .inr ⟨n + 1 + 1, 0, rfl, fun i hi => by
    rw [cell_of_row _ _ _ _ _ _ k2]
    match i, hi with
    | 0, _ => rfl
    | 1, _ => rfl
    | 2, _ => rfl
    | 3, _ => rfl⟩⟩
  have hpn : p < n := by omega
  have HON := Lib.hid (fun (b : Nat) (hb : n ≤ b) => (fun e => by have := HO.out b e; omega : v.ownBlock ≠ some b))
  have c0 : W0.cell? ⟨n, 0, none⟩ = some (.pointer (some ⟨p, 0, none⟩)) := (cell_of_row _ _ _ _ _ _ k0).trans rfl
  have HD := Lib.hid (fun (j : Nat) (hj : 4 ≤ j) (hj2 : j < 9) => ((cell_of_row W0 (n + 1) j _ _ _ k1).trans (by
    match j, hj, hj2 with
    | 4, _, _ => rfl
    | 5, _, _ => rfl
    | 6, _, _ => rfl
    | 7, _, _ => rfl
    | 8, _, _ => rfl) : W0.cell? ⟨n + 1, j, none⟩ = some (.slice none 0 0)))
  have HB := Lib.hid hbel
  have HI := Lib.hid hints
  have HW := Lib.hid (H.out.pure hbel)
  have C0 := Lib.hid c0
  clear hW0 hn hbel k0 k1 k2 hints c0 hp
  refine (snnumbers _ [c, 0, 1, 1] p v L W0 HW.out HI.out (fun g e => by cases e; exact ⟨by show n + 1 + 1 ≠ p; omega, HON.out _ (by show n ≤ n + 1 + 1; omega)⟩) (by simp) (by omega)).mono ?_
  rintro e w1 ⟨rfl, v1, h1⟩
  have H1 := Lib.hid h1
  have c1 := H1.out.cellx C0.out (by omega) (HON.out _ (by omega))
  have d1 := H1.out.cellx (HD.out 4 (by omega) (by omega)) (by omega) (HON.out _ (by omega))
  clear h1
  go_wp2_with fail
  refine (many_account _ p v1 _ w1 H1.out.is (by have := hn4.out; simp at this ⊢; omega)).mono ?_
  rintro e w2 ⟨rfl, v2, h2⟩
  have H2 := Lib.hid (H1.out.trans h2)
  have c2 := H2.out.cellx C0.out (by omega) (HON.out _ (by omega))
  have d2 := H2.out.cellx (HD.out 5 (by omega) (by omega)) (by omega) (HON.out _ (by omega))
  clear h2 c1 d1
  go_wp2_with fail
  refine (many_instrument _ p v2 _ w2 H2.out.is (by have := hn4.out; simp at this ⊢; omega)).mono ?_
  rintro e w3 ⟨rfl, v3, h3⟩
  have H3 := Lib.hid (H2.out.trans h3)
  have c3 := H3.out.cellx C0.out (by omega) (HON.out _ (by omega))
  have d3 := H3.out.cellx (HD.out 6 (by omega) (by omega)) (by omega) (HON.out _ (by omega))
  clear h3 c2 d2
  go_wp2_with fail
  refine (many_row _ p v3 _ w3 H3.out.is (by have := hn4.out; simp at this ⊢; omega)).mono ?_
  rintro e w4 ⟨rfl, v4, h4⟩
  have H4 := Lib.hid (H3.out.trans h4)
  have c4 := H4.out.cellx C0.out (by omega) (HON.out _ (by omega))
  have d4 := H4.out.cellx (HD.out 7 (by omega) (by omega)) (by omega) (HON.out _ (by omega))
  clear h4 c3 d3
  go_wp2_with fail
  refine (many_order _ p v4 _ w4 H4.out.is (by have := hn4.out; simp at this ⊢; omega)).mono ?_
  rintro e w5 ⟨rfl, v5, h5⟩
  have H5 := Lib.hid (H4.out.trans h5)
  have c5 := H5.out.cellx C0.out (by omega) (HON.out _ (by omega))
  have d5 := H5.out.cellx (HD.out 8 (by omega) (by omega)) (by omega) (HON.out _ (by omega))
  clear h5 c4 d4
  go_wp2_with fail
  refine (many_auction _ p v5 _ w5 H5.out.is (by have := hn4.out; simp at this ⊢; omega)).mono ?_
  rintro e w6 ⟨rfl, v6, h6⟩
  have H6 := Lib.hid (H5.out.trans h6)
  clear h6 c5 d5
  go_wp2
  go_end0
  refine ⟨rfl, v6, ?_⟩
  have := WrTo.under HB.out H6.out
  simpa using this

set_option maxRecDepth 100000 in
set_option maxHeartbeats 2000000 in
theorem project0 (p : Nat) (v : Value) (L : List UInt8) (w : World) (h : IsWr w p v L) (hL : L.length ≤ 100000) :
    Calls Tryz.prog 101 #[.pointer (some ⟨p, 0, none⟩), viewsV] w fun e w' => e = .returned (.tuple #[]) ∧ ∃ v', WrTo p w w' v v' (L ++ [0, 0, 0, 0]) := by
  unfold viewsV
  have hmf : ∀ (fn : Fn) (first cap : Array Value) (w : World), (Instr.makeFunc fn first cap).run Tryz.prog w = .ok (.func fn first cap) w := fun _ _ _ _ => rfl
  have H := Lib.hid h
  have hp := h.lt
  have HO := Lib.hid (fun g (hg : v.ownBlock = some g) => h.lto hg)
  clear h
  go_enter Tryz.func101, Tryz.ntmps101
  go_wp2_with fail
  obtain ⟨n, hn⟩ : ∃ n, n = w.heap.size := ⟨_, rfl⟩
  obtain ⟨W0, hW0⟩ : ∃ W0, W0 = (w.alloc (.cells #[.pointer (some ⟨p, 0, none⟩)] 119)).alloc (.cells #[.slice none 0 0, .slice none 0 0, .slice none 0 0, .slice none 0 0] 42) := ⟨_, rfl⟩
  have hbel : Below w.heap.size w W0 := by rw [hW0]; exact ((Below.refl _ _).alloc (Nat.le_refl _) _).alloc (by simp) _
  have k0 : W0.heap[n]? = some (.cells #[.pointer (some ⟨p, 0, none⟩)] 119 (0, 0)) := by rw [hW0, hn]; exact (Below.heap_alloc _ _ _ (by simp)).trans (heap_alloc_new _ _)
  have k1 : W0.heap[n + 1]? = some (.cells #[.slice none 0 0, .slice none 0 0, .slice none 0 0, .slice none 0 0] 42 (0, 0)) := by rw [hW0, hn]; exact alloc_at_top _ _ (by simp)
  rw [← hW0]
  try rw [← hn]
  have hpn : p < n := by omega
  have HON := Lib.hid (fun (b : Nat) (hb : n ≤ b) => (fun e => by have := HO.out b e; omega : v.ownBlock ≠ some b))
  have c0 : W0.cell? ⟨n, 0, none⟩ = some (.pointer (some ⟨p, 0, none⟩)) := (cell_of_row _ _ _ _ _ _ k0).trans rfl
  have HD := Lib.hid (fun (j : Nat) (hj2 : j < 4) => ((cell_of_row W0 (n + 1) j _ _ _ k1).trans (by
    match j, hj2 with
    | 0, _ => rfl
    | 1, _ => rfl
    | 2, _ => rfl
    | 3, _ => rfl) : W0.cell? ⟨n + 1, j, none⟩ = some (.slice none 0 0)))
  have HB := Lib.hid hbel
  have H1 := Lib.hid (show WrTo p W0 W0 v v L from ⟨H.out.pure hbel, Fr.refl _ _, Went.refl _ _⟩)
  have C0 := Lib.hid c0
  clear hW0 hn hbel k0 k1 c0 hp
  refine (many_open _ p v _ W0 H1.out.is (by (try simp); omega)).mono ?_
  rintro e w2 ⟨rfl, v2, h2⟩
  have H2 := Lib.hid (H1.out.trans h2)
  have c2 := H2.out.cellx C0.out (by omega) (HON.out _ (by omega))
  have d2 := H2.out.cellx (HD.out 1 (by omega)) (by omega) (HON.out _ (by omega))
  clear h2
  go_wp2_with fail
  refine (many_lot _ p v2 _ w2 H2.out.is (by (try simp); omega)).mono ?_
  rintro e w3 ⟨rfl, v3, h3⟩
  have H3 := Lib.hid (H2.out.trans h3)
  have c3 := H3.out.cellx C0.out (by omega) (HON.out _ (by omega))
  have d3 := H3.out.cellx (HD.out 2 (by omega)) (by omega) (HON.out _ (by omega))
  clear h3 c2 d2
  go_wp2_with fail
  refine (many_position _ p v3 _ w3 H3.out.is (by (try simp); omega)).mono ?_
  rintro e w4 ⟨rfl, v4, h4⟩
  have H4 := Lib.hid (H3.out.trans h4)
  have c4 := H4.out.cellx C0.out (by omega) (HON.out _ (by omega))
  have d4 := H4.out.cellx (HD.out 3 (by omega)) (by omega) (HON.out _ (by omega))
  clear h4 c3 d3
  go_wp2_with fail
  refine (many_line _ p v4 _ w4 H4.out.is (by (try simp); omega)).mono ?_
  rintro e w5 ⟨rfl, v5, h5⟩
  have H5 := Lib.hid (H4.out.trans h5)
  clear h5 c4 d4
  go_wp2
  go_end0
  refine ⟨rfl, v5, ?_⟩
  have := WrTo.under HB.out H5.out
  simpa using this
end Go.Proofs.YteikdcobpfohcaaGreatDoor
