/- An index's marks: the plain laws. -/
import Derived.Test.YtcdjckdbcffgdaaGreatDoorMCb
import Derived.Test.YtcdjckdbcffgdaaGreatDoorMCa
import Derived.Test.YtcdjckdbcffgdaaGreatDoorMkDk11
import Derived.Defers
import Derived.Laws.EntriesVeiled
namespace Go.Proofs.YtcdjckdbcffgdaaGreatDoor

/-- How many marks so many frames have. -/
def markN (ev n : Nat) : Nat := (n + ev - 1) / ev
/-- The mark at a place. -/
def markAt (ev q : Nat) (ps : List (List UInt8)) (j : Nat) : Int × Int := (((q + j * ev : Nat) : Int), ((16 + (frames q (ps.take (j * ev))).length : Nat) : Int))
def marks (ev q : Nat) (ps : List (List UInt8)) : Segs := (List.range (markN ev ps.length)).map (markAt ev q ps)

theorem marks_length (ev q : Nat) (ps : List (List UInt8)) : (marks ev q ps).length = markN ev ps.length := by simp [marks]
theorem marks_get (ev q : Nat) (ps : List (List UInt8)) (j : Nat) (h : j < (marks ev q ps).length) : (marks ev q ps)[j] = markAt ev q ps j := by simp [marks]
theorem markN_zero {ev : Nat} (h : 0 < ev) : markN ev 0 = 0 := by unfold markN; exact Nat.div_eq_of_lt (by omega)
theorem markN_succ {ev : Nat} (h : 0 < ev) (n : Nat) : markN ev (n + 1) = if n % ev = 0 then markN ev n + 1 else markN ev n := by
  unfold markN
  have hd := Nat.div_add_mod n ev
  have hr := Nat.mod_lt n h
  generalize n / ev = a at *
  generalize n % ev = r at *
  have e1 : n + 1 + ev - 1 = (r + ev * a) + ev := by omega
  have e2 : n + ev - 1 = (r + ev - 1) + ev * a := by omega
  rw [e1, e2, Nat.add_div_right _ h, Nat.add_mul_div_left _ _ h, Nat.add_mul_div_left _ _ h, Nat.div_eq_of_lt hr]
  split
  · rename_i h0
    rw [h0, Nat.div_eq_of_lt (by omega : 0 + ev - 1 < ev)]
  · rename_i h0
    rw [show r + ev - 1 = (r - 1) + ev from by omega, Nat.add_div_right _ h, Nat.div_eq_of_lt (by omega : r - 1 < ev)]
    omega
theorem markN_eq {ev : Nat} (h : 0 < ev) {n : Nat} (h0 : n % ev = 0) : markN ev n * ev = n := by
  unfold markN
  obtain ⟨a, rfl⟩ := Nat.dvd_of_mod_eq_zero h0
  rw [show ev * a + ev - 1 = (ev - 1) + ev * a from by omega, Nat.add_mul_div_left _ _ h, Nat.div_eq_of_lt (by omega : ev - 1 < ev), Nat.zero_add, Nat.mul_comm]
theorem markN_lt {ev : Nat} (h : 0 < ev) {n j : Nat} (hj : j < markN ev n) : j * ev < n := by
  unfold markN at hj
  have h1 : j + 1 ≤ (n + ev - 1) / ev := hj
  rw [Nat.le_div_iff_mul_le h, Nat.add_mul] at h1
  omega
theorem markN_of {ev : Nat} (h : 0 < ev) {n j : Nat} (hj : j * ev < n) : j < markN ev n := by
  unfold markN
  have : j + 1 ≤ (n + ev - 1) / ev := by rw [Nat.le_div_iff_mul_le h, Nat.add_mul]; omega
  omega
/-- A frame more: a mark more, if it is its turn. -/
theorem marks_snoc {ev : Nat} (h : 0 < ev) (q : Nat) (ps : List (List UInt8)) (p : List UInt8) :
    marks ev q (ps ++ [p]) = marks ev q ps ++ (if ps.length % ev = 0 then [(((q + ps.length : Nat) : Int), ((16 + (frames q ps).length : Nat) : Int))] else []) := by
  have hk : ∀ j, j * ev ≤ ps.length → markAt ev q (ps ++ [p]) j = markAt ev q ps j := fun j hj => by unfold markAt; rw [List.take_append_of_le_length hj]
  have hs := markN_succ h ps.length
  unfold marks
  rw [List.length_append, List.length_singleton, hs]
  have hm : (List.range (markN ev ps.length)).map (markAt ev q (ps ++ [p])) = (List.range (markN ev ps.length)).map (markAt ev q ps) :=
    List.map_congr_left fun j hj => hk j (Nat.le_of_lt (markN_lt h (List.mem_range.1 hj)))
  split
  · rename_i h0
    rw [List.range_succ, List.map_append, hm, List.map_singleton]
    congr 2
    have e := markN_eq h h0
    rw [hk _ (by omega)]
    unfold markAt
    rw [e, List.take_length]
  · rename_i h0
    rw [hm, List.append_nil]
theorem marks_nil {ev : Nat} (h : 0 < ev) (q : Nat) : marks ev q [] = [] := by unfold marks; rw [List.length_nil, markN_zero h]; rfl
/-- Where in the marks a frame is found: the last one that is not beyond it. -/
theorem mark_at {ev : Nat} (h : 0 < ev) {ps : List (List UInt8)} {k : Nat} (hk : k < ps.length) : k / ev < markN ev ps.length := markN_of h (Nat.lt_of_le_of_lt (Nat.div_mul_le_self k ev) hk)
theorem markN_div {ev : Nat} (h : 0 < ev) (k : Nat) : markN ev k = k / ev + (if k % ev = 0 then 0 else 1) := by
  unfold markN
  have hd := Nat.div_add_mod k ev
  have hr := Nat.mod_lt k h
  generalize k / ev = a at *
  generalize k % ev = r at *
  rw [show k + ev - 1 = (r + ev - 1) + ev * a from by omega, Nat.add_mul_div_left _ _ h]
  split
  · rename_i h0
    rw [h0, Nat.div_eq_of_lt (by omega : 0 + ev - 1 < ev)]
    omega
  · rw [show r + ev - 1 = (r - 1) + ev from by omega, Nat.add_div_right _ h, Nat.div_eq_of_lt (by omega : r - 1 < ev)]
    omega
/-- The marks ahead of a frame are the first ones. -/
theorem mark_before {ev : Nat} (h : 0 < ev) (q : Nat) (ps : List (List UInt8)) (j k : Nat) : (markAt ev q ps j).1 < ((q + k : Nat) : Int) ↔ j < markN ev k := by
  unfold markAt
  constructor
  · intro hj
    have hj : ((q + j * ev : Nat) : Int) < ((q + k : Nat) : Int) := hj
    exact markN_of h (by omega)
  · intro hj; have := markN_lt h hj; show ((q + j * ev : Nat) : Int) < ((q + k : Nat) : Int); omega
end Go.Proofs.YtcdjckdbcffgdaaGreatDoor

/- Swap: its steps, each a closure. -/
namespace Go.Proofs.YtcdjckdbcffgdaaGreatDoor
open Go.RowKit Go.Maps Go.Sort

def freshN : List UInt8 := [77, 65, 78, 73, 70, 69, 83, 84, 46, 110, 101, 119]
def fileN : List UInt8 := [77, 65, 78, 73, 70, 69, 83, 84]

/-- What the steps do. -/
def stepF (s : List UInt8) : Nat → DkSt → DkSt × Int
  | 0, st => dkDelete st freshN
  | 1, st => dkCreate st freshN
  | 2, st => dkAppend st freshN s
  | 3, st => dkSync st freshN
  | _, st => dkRename st freshN fileN

set_option maxRecDepth 100000 in
set_option maxHeartbeats 400000 in
theorem step_0 (w : World) (q p b : Nat) (st : DkSt) (h : IsDk w p b st) (hq : w.cell? ⟨q, 0, none⟩ = some (.pointer (some ⟨p, 0, none⟩))) :
    Calls Tryz.prog 94 #[.pointer (some ⟨q, 0, none⟩)] w fun e w' => OpPost p b (stepF [] 0 st) w e w' := by
  have H := Lib.hid h
  clear h
  go_enter Tryz.func94, Tryz.ntmps94
  go_wp2_with fail
  refine (dk_delete w p b st H.out ⟨#[77, 65, 78, 73, 70, 69, 83, 84, 46, 110, 101, 119]⟩ (by decide)).mono ?_
  rintro e w1 ⟨rfl, hd, hf⟩
  have HD := Lib.hid (And.intro hd hf)
  clear hd hf
  go_wp2
  go_ret
  exact ⟨rfl, HD.out.1, HD.out.2⟩

set_option maxRecDepth 100000 in
set_option maxHeartbeats 400000 in
theorem step_1 (w : World) (q p b : Nat) (st : DkSt) (h : IsDk w p b st) (hq : w.cell? ⟨q, 0, none⟩ = some (.pointer (some ⟨p, 0, none⟩))) :
    Calls Tryz.prog 95 #[.pointer (some ⟨q, 0, none⟩)] w fun e w' => OpPost p b (stepF [] 1 st) w e w' := by
  have H := Lib.hid h
  clear h
  go_enter Tryz.func95, Tryz.ntmps95
  go_wp2_with fail
  refine (dk_create w p b st H.out ⟨#[77, 65, 78, 73, 70, 69, 83, 84, 46, 110, 101, 119]⟩ (by decide)).mono ?_
  rintro e w1 ⟨rfl, hd, hf⟩
  have HD := Lib.hid (And.intro hd hf)
  clear hd hf
  go_wp2
  go_ret
  exact ⟨rfl, HD.out.1, HD.out.2⟩

set_option maxRecDepth 100000 in
set_option maxHeartbeats 400000 in
theorem step_2 (w : World) (q u p b : Nat) (st : DkSt) (x : ByteArray) (h : IsDk w p b st) (hq : w.cell? ⟨q, 0, none⟩ = some (.pointer (some ⟨p, 0, none⟩))) (hu : w.cell? ⟨u, 0, none⟩ = some (.string x)) (hx : x.size ≤ 140737488355328) :
    Calls Tryz.prog 96 #[.pointer (some ⟨q, 0, none⟩), .pointer (some ⟨u, 0, none⟩)] w fun e w' => OpPost p b (stepF x.data.toList 2 st) w e w' := by
  have H := Lib.hid h
  clear h
  go_enter Tryz.func96, Tryz.ntmps96
  go_wp2_with fail
  refine (dk_append w p b st H.out ⟨#[77, 65, 78, 73, 70, 69, 83, 84, 46, 110, 101, 119]⟩ x (by decide) hx).mono ?_
  rintro e w1 ⟨rfl, hd, hf⟩
  have HD := Lib.hid (And.intro hd hf)
  clear hd hf
  go_wp2
  go_ret
  exact ⟨rfl, HD.out.1, HD.out.2⟩

set_option maxRecDepth 100000 in
set_option maxHeartbeats 400000 in
theorem step_3 (w : World) (q p b : Nat) (st : DkSt) (h : IsDk w p b st) (hq : w.cell? ⟨q, 0, none⟩ = some (.pointer (some ⟨p, 0, none⟩))) :
    Calls Tryz.prog 97 #[.pointer (some ⟨q, 0, none⟩)] w fun e w' => OpPost p b (stepF [] 3 st) w e w' := by
  have H := Lib.hid h
  clear h
  go_enter Tryz.func97, Tryz.ntmps97
  go_wp2_with fail
  refine (dk_sync w p b st H.out ⟨#[77, 65, 78, 73, 70, 69, 83, 84, 46, 110, 101, 119]⟩ (by decide)).mono ?_
  rintro e w1 ⟨rfl, hd, hf⟩
  have HD := Lib.hid (And.intro hd hf)
  clear hd hf
  go_wp2
  go_ret
  exact ⟨rfl, HD.out.1, HD.out.2⟩

set_option maxRecDepth 100000 in
set_option maxHeartbeats 400000 in
theorem step_4 (w : World) (q p b : Nat) (st : DkSt) (h : IsDk w p b st) (hq : w.cell? ⟨q, 0, none⟩ = some (.pointer (some ⟨p, 0, none⟩))) :
    Calls Tryz.prog 98 #[.pointer (some ⟨q, 0, none⟩)] w fun e w' => OpPost p b (stepF [] 4 st) w e w' := by
  have H := Lib.hid h
  clear h
  go_enter Tryz.func98, Tryz.ntmps98
  go_wp2_with fail
  refine (dk_rename w p b st H.out ⟨#[77, 65, 78, 73, 70, 69, 83, 84, 46, 110, 101, 119]⟩ ⟨#[77, 65, 78, 73, 70, 69, 83, 84]⟩ (by decide) (by decide)).mono ?_
  rintro e w1 ⟨rfl, hd, hf⟩
  have HD := Lib.hid (And.intro hd hf)
  clear hd hf
  go_wp2
  go_ret
  exact ⟨rfl, HD.out.1, HD.out.2⟩


/-- What stands at the end behind a way out. -/
def swapEnd (e : Int) (st : DkSt) : DkSt × Int :=
  if e = 44 then (if (dkDelete st freshN).2 = 0 ∨ (dkDelete st freshN).2 = 5 then ((dkDelete st freshN).1, 44) else dkDelete st freshN) else (st, e)

theorem delete_code (st : DkSt) (n : List UInt8) : (dkDelete st n).2 = 0 ∨ (dkDelete st n).2 = 5 ∨ (dkDelete st n).2 = 45 := by
  unfold dkDelete doing
  split
  · simp
  · split
    · simp
    · split <;> simp

set_option maxRecDepth 100000 in
set_option maxHeartbeats 1000000 in
theorem swap_deferred (w : World) (c q p b : Nat) (st : DkSt) (code : Int) (u : FrameMode) (h : IsDk w p b st) (hc : w.heap[c]? = some (.cells #[.int .i64 code] 27 (0, 0))) (hq : w.cell? ⟨q, 0, none⟩ = some (.pointer (some ⟨p, 0, none⟩))) (hcp : c ≠ p) (hqc : q ≠ c) :
    CallsD Tryz.prog 93 #[.pointer (some ⟨c, 0, none⟩), .pointer (some ⟨q, 0, none⟩)] u w fun e u' w' => u' = u ∧ (e = .returned (.tuple #[]) ∧ w'.cell? ⟨c, 0, none⟩ = some (.int .i64 (swapEnd code st).2) ∧ IsDk w' p b (swapEnd code st).1 ∧ Fr (fun k => k = p ∨ k = b ∨ k = c) w w') := by
  have hc0 : w.cell? ⟨c, 0, none⟩ = some (.int .i64 code) := by rw [cell_of_row w c 0 _ _ _ hc]; rfl
  have hcz : w.frozen? ⟨c, 0, none⟩ = false := frozen_of_row w c 0 _ _ hc
  have H := Lib.hid h
  have HC := Lib.hid hc
  have hcb : c ≠ b := h.off hc0
  clear h hc
  go_enter_d Tryz.func93, Tryz.ntmps93
  by_cases h44 : code = 44
  · go_wp2_with fail
    refine (show Calls Tryz.prog 30 #[.pointer (some ⟨p, 0, none⟩), .string ⟨#[77, 65, 78, 73, 70, 69, 83, 84, 46, 110, 101, 119]⟩] w fun e w' => OpPost p b (dkDelete st freshN) w e w' from dk_delete w p b st H.out ⟨#[77, 65, 78, 73, 70, 69, 83, 84, 46, 110, 101, 119]⟩ (by decide)).mono ?_
    rintro e w1 ⟨rfl, hd, hf⟩
    have hcb2 : ¬ (c = p ∨ c = b) := by omega
    have c1 := hf.cellAt hc0 hcb2
    have z1 : w1.frozen? ⟨c, 0, none⟩ = false := (hf.frozen (ltOfCell hc0) hcb2).trans hcz
    have HD := Lib.hid (And.intro hd (hf.mono (T := fun k => k = p ∨ k = b ∨ k = c) (fun _ _ h => by omega)))
    clear hd hf
    rcases delete_code st freshN with h0 | h5 | h45
    · have e1 := Lib.hid (show swapEnd code st = ((dkDelete st freshN).1, 44) from by unfold swapEnd; rw [if_pos h44, if_pos (.inl h0)])
      rw [h0]
      clear h0
      go_wp2
      go_end0
      rw [e1.out]
      exact ⟨rfl, by rw [c1, h44], HD.out.1, HD.out.2⟩
    · have e1 := Lib.hid (show swapEnd code st = ((dkDelete st freshN).1, 44) from by unfold swapEnd; rw [if_pos h44, if_pos (.inr h5)])
      rw [h5]
      clear h5
      go_wp2
      go_end0
      rw [e1.out]
      exact ⟨rfl, by rw [c1, h44], HD.out.1, HD.out.2⟩
    · have e1 := Lib.hid (show swapEnd code st = dkDelete st freshN from by unfold swapEnd; rw [if_pos h44, if_neg (by omega)])
      have e2 := Lib.hid h45
      rw [h45]
      clear h45
      go_wp2
      go_end0
      rw [e1.out]
      refine ⟨rfl, by rw [World.cell?_setCell_same _ _ _ c1, e2.out], HD.out.1.kept (setCell_fr _ _) (by show ¬ p = c; omega) (by show ¬ b = c; omega), HD.out.2.setCell ⟨c, 0, none⟩ (fun _ => .inr (.inr rfl)) _⟩
  · have e1 := Lib.hid (show swapEnd code st = (st, code) from by unfold swapEnd; rw [if_neg h44])
    go_wp2
    go_end0
    rw [e1.out]
    exact ⟨rfl, hc0, H.out, Fr.refl _ _⟩

end Go.Proofs.YtcdjckdbcffgdaaGreatDoor

/- The walk of Swap. -/
namespace Go.Proofs.YtcdjckdbcffgdaaGreatDoor
open Go.RowKit Go.Maps Go.Sort

def swapL (s : List UInt8) : List Nat → DkSt → DkSt × Int
  | [], st => (st, 0)
  | k :: r, st => if (stepF s k st).2 ≠ 0 ∧ ¬ (k = 0 ∧ (stepF s k st).2 = 5) then stepF s k st else swapL s r (stepF s k st).1
def dkSwap (st : DkSt) (g : Int) (l : Segs) : DkSt × Int :=
  if mayB g l then (swapEnd (swapL (Crc.seal_ (manBytes g l)) [0, 1, 2, 3, 4] st).2 (swapL (Crc.seal_ (manBytes g l)) [0, 1, 2, 3, 4] st).1) else (st, 4)

set_option maxRecDepth 100000 in
set_option maxHeartbeats 2000000 in
theorem swap_bad (w : World) (p : Nat) (g : Int) (sv : Value) (l : Segs) (hs : SegsAt w sv l) (hl : l.length ≤ 1099511627776) (hm : mayB g l = false) :
    Calls Tryz.prog 46 #[.pointer (some ⟨p, 0, none⟩), .agg #[.int .i64 g, sv]] w fun e w' => e = .returned (.int .i64 4) ∧ Below w.heap.size w w' := by
  have hmf : ∀ (fn : Fn) (first cap : Array Value) (w : World), (Instr.makeFunc fn first cap).run Tryz.prog w = .ok (.func fn first cap) w := fun _ _ _ _ => rfl
  have HS := Lib.hid hs
  have HM := Lib.hid hm
  clear hs hm
  go_enter_defers Tryz.func46, Tryz.ntmps46
  go_wp2_with fail
  refine (make_bad _ g sv l (HS.out.pure (((((Below.refl _ _).alloc (Nat.le_refl _) _).alloc (by simp) _).alloc (by simp; omega) _))) hl HM.out).mono ?_
  rintro e w1 ⟨rfl, hb1⟩
  have hs1 := hb1.size
  simp at hs1
  have hs2 : w.heap.size + 1 + 1 < w1.heap.size := by omega
  have c1 : w1.cell? ⟨w.heap.size + 1 + 1, 0, none⟩ = some (.int .i64 0) := by rw [hb1.cell (by simp), World.cell?_alloc_at _ _ _ _ (by simp)]; rfl
  have z1 : w1.frozen? ⟨w.heap.size + 1 + 1, 0, none⟩ = false := (hb1.frozen (by simp)).trans (World.frozen?_alloc_at _ _ _ _ (by simp))
  have HB := Lib.hid ((((((Below.refl w.heap.size w).alloc (Nat.le_refl _) _).alloc (by simp) _).alloc (by simp; omega) _)).trans (hb1.mono (by simp; omega)))
  clear hb1
  go_wp2
  refine ⟨.int .i64 4, ?_, rfl, ?_⟩
  · simp [results, Tryz.results46, go_sem]
    rw [World.cell?_alloc_past _ _ _ (by simpa using hs2), World.cell?_setCell_same' _ _ _ (by rw [World.cell?_setCell_same' _ _ _ (by rw [c1]; rfl)]; rfl)]
  · exact ((HB.out.setCell (by show w.heap.size ≤ w.heap.size + 1 + 1; omega) _).setCell (by show w.heap.size ≤ w.heap.size + 1 + 1; omega) _).alloc (by simp; omega) _

/-- The five steps as they lie. -/
def stepCells (n u : Nat) : Array Value := #[.func (.func 94) #[] #[.pointer (some ⟨n, 0, none⟩)], .bool true, .func (.func 95) #[] #[.pointer (some ⟨n, 0, none⟩)], .bool false,
  .func (.func 96) #[] #[.pointer (some ⟨n, 0, none⟩), .pointer (some ⟨u, 0, none⟩)], .bool false, .func (.func 97) #[] #[.pointer (some ⟨n, 0, none⟩)], .bool false, .func (.func 98) #[] #[.pointer (some ⟨n, 0, none⟩)], .bool false]

theorem step_at (n u p b k : Nat) (x : ByteArray) (hx : x.size ≤ 140737488355328) (hk : k < 5) : ∃ (fk : FuncId) (caps : Array Value), Enters Tryz.prog fk ∧ (stepCells n u)[k * 2]? = some (.func (.func fk) #[] caps) ∧ (stepCells n u)[k * 2 + 1]? = some (.bool (decide (k = 0))) ∧
    ∀ (w : World) (st : DkSt), IsDk w p b st → w.cell? ⟨n, 0, none⟩ = some (.pointer (some ⟨p, 0, none⟩)) → w.cell? ⟨u, 0, none⟩ = some (.string x) → Calls Tryz.prog fk caps w fun e w' => OpPost p b (stepF x.data.toList k st) w e w' := by
  match k, hk with
  | 0, _ => exact ⟨_, _, enters_of Tryz.func94 (by kernel_rfl) rfl, rfl, rfl, fun w st h hq _ => step_0 w n p b st h hq⟩
  | 1, _ => exact ⟨_, _, enters_of Tryz.func95 (by kernel_rfl) rfl, rfl, rfl, fun w st h hq _ => step_1 w n p b st h hq⟩
  | 2, _ => exact ⟨_, _, enters_of Tryz.func96 (by kernel_rfl) rfl, rfl, rfl, fun w st h hq hu => step_2 w n u p b st x h hq hu hx⟩
  | 3, _ => exact ⟨_, _, enters_of Tryz.func97 (by kernel_rfl) rfl, rfl, rfl, fun w st h hq _ => step_3 w n p b st h hq⟩
  | 4, _ => exact ⟨_, _, enters_of Tryz.func98 (by kernel_rfl) rfl, rfl, rfl, fun w st h hq _ => step_4 w n p b st h hq⟩

theorem res_cell (tmps : Array Value) (w : World) (c : Nat) (v : Value) (n : Int) (ht : tmps[4]?.getD undef = .pointer (some ⟨c, 0, none⟩)) (hc : w.cell? ⟨c, 0, none⟩ = some v) (hsm : v = .int .i64 n) : (results Tryz.f46 tmps).run Tryz.prog w = .ok v w := by
  subst hsm
  simp [results, Tryz.results46, go_sem, ht, hc]

theorem swap_door (wd : World) (p b c q : Nat) (st : DkSt) (code : Int) (tmps : Array Value) (ht : tmps[4]?.getD undef = .pointer (some ⟨c, 0, none⟩)) (hd : IsDk wd p b st) (hc : wd.heap[c]? = some (.cells #[.int .i64 code] 27 (0, 0)))
    (hq : wd.cell? ⟨q, 0, none⟩ = some (.pointer (some ⟨p, 0, none⟩))) (hcp : c ≠ p) (hqc : q ≠ c) (R : Ending → World → Prop)
    (hR : ∀ w', IsDk w' p b (swapEnd code st).1 → Fr (fun k => k = p ∨ k = b ∨ k = c) wd w' → R (.returned (.int .i64 (swapEnd code st).2)) w') :
    bodyPostD Tryz.prog Tryz.f46 R Exit.ret { tmps := tmps, defers := [{ target := Target.fn (Fn.func 93) #[.pointer (some ⟨c, 0, none⟩), .pointer (some ⟨q, 0, none⟩)], args := #[] }] } wd := by
  refine leaves_cons (f := 93) (args := #[.pointer (some ⟨c, 0, none⟩), .pointer (some ⟨q, 0, none⟩)]) (by simp) (by simp [go_sem]) ?_
  refine (swap_deferred wd c q p b st code .returning hd hc hq hcp hqc).mono ?_
  rintro e u' w'' ⟨rfl, rfl, hc', hd', hf'⟩
  exact ⟨_, res_cell tmps w'' c _ _ ht hc' rfl, hR w'' hd' hf'⟩

theorem swapL_drop {s : List UInt8} {k : Nat} {st : DkSt} (hk : k < 5) : swapL s ([0, 1, 2, 3, 4].drop k) st = if (stepF s k st).2 ≠ 0 ∧ ¬ (k = 0 ∧ (stepF s k st).2 = 5) then stepF s k st else swapL s ([0, 1, 2, 3, 4].drop (k + 1)) (stepF s k st).1 := by
  match k, hk with
  | 0, _ => rfl
  | 1, _ => rfl
  | 2, _ => rfl
  | 3, _ => rfl
  | 4, _ => rfl

theorem manBytes_length (g : Int) (l : Segs) : (manBytes g l).length = 14 + 16 * l.length := by
  unfold manBytes
  rw [List.length_append, List.length_append, List.length_append, entBytes_length, be_length, be_length]; rfl

set_option maxRecDepth 100000 in
set_option maxHeartbeats 4000000 in
theorem swap_ok (w : World) (p b : Nat) (st : DkSt) (h : IsDk w p b st) (g : Int) (sv : Value) (l : Segs) (hs : SegsAt w sv l) (hl : l.length ≤ 1099511627776) (hm : mayB g l = true) :
    Calls Tryz.prog 46 #[.pointer (some ⟨p, 0, none⟩), .agg #[.int .i64 g, sv]] w fun e w' => OpPost p b (dkSwap st g l) w e w' := by
  have hmf : ∀ (fn : Fn) (first cap : Array Value) (w : World), (Instr.makeFunc fn first cap).run Tryz.prog w = .ok (.func fn first cap) w := fun _ _ _ _ => rfl
  have HS := Lib.hid hs
  have HM := Lib.hid hm
  have H := Lib.hid h
  have hp := h.lt
  have hbl := h.own.lt
  clear hs hm h
  go_enter_defers Tryz.func46, Tryz.ntmps46
  go_wp2_with fail
  refine (make_ok _ g sv l (HS.out.pure (((((Below.refl _ _).alloc (Nat.le_refl _) _).alloc (by simp) _).alloc (by simp; omega) _))) HM.out).mono ?_
  rintro e w1 ⟨x, hx, rfl, hb1⟩
  have HX := Lib.hid hx
  have hs1 := hb1.size
  simp at hs1
  have hs2 : w.heap.size + 1 + 1 < w1.heap.size := by omega
  have HB := Lib.hid ((((((Below.refl w.heap.size w).alloc (Nat.le_refl _) _).alloc (by simp) _).alloc (by simp; omega) _)).trans (hb1.mono (by simp; omega)))
  have hq : w1.cell? ⟨w.heap.size, 0, none⟩ = some (.pointer (some ⟨p, 0, none⟩)) := by rw [hb1.cell (by simp; omega), World.cell?_alloc_past _ _ _ (by simp; omega), World.cell?_alloc_past _ _ _ (by simp), World.cell?_alloc_at _ _ _ _ rfl]; rfl
  have hcb : w1.heap[w.heap.size + 1 + 1]? = some (.cells #[.int .i64 0] 27 (0, 0)) := (hb1.block _ (by simp)).trans (alloc_at_top _ _ (by simp))
  have c1 : w1.cell? ⟨w.heap.size + 1 + 1, 0, none⟩ = some (.int .i64 0) := by rw [cell_of_row w1 _ _ _ _ _ hcb]; rfl
  have z1 : w1.frozen? ⟨w.heap.size + 1 + 1, 0, none⟩ = false := frozen_of_row w1 _ 0 _ _ hcb
  clear hb1 hx
  go_wp2
  obtain ⟨w2, hw2⟩ : ∃ w2, w2 = ((w1.setCell ⟨w.heap.size + 1 + 1, 0, none⟩ (.int .i64 0)).alloc (.cells #[.string x] 9)).alloc (.cells (stepCells w.heap.size w1.heap.size) 143) := ⟨_, rfl⟩
  have HW2 := Lib.hid hw2
  have hfr2 : Fr (fun k => k = w.heap.size + 1 + 1) w1 w2 := by rw [hw2]; exact ((setCell_fr (w := w1) ⟨w.heap.size + 1 + 1, 0, none⟩ _).alloc _).alloc _
  have hq2 := hfr2.cellAt hq (by omega)
  have hc2 : w2.heap[w.heap.size + 1 + 1]? = some (.cells #[.int .i64 0] 27 (0, 0)) := by
    rw [hw2, Below.heap_alloc _ _ _ (by simp; omega), Below.heap_alloc _ _ _ (by simp; omega)]
    exact one_setCell hcb
  have hu2 : w2.cell? ⟨w1.heap.size, 0, none⟩ = some (.string x) := by rw [hw2, World.cell?_alloc_past _ _ _ (by simp), World.cell?_alloc_at _ _ _ _ (by simp)]; rfl
  have hst2 : w2.heap[w1.heap.size + 1]? = some (.cells (stepCells w.heap.size w1.heap.size) 143 (0, 0)) := by rw [hw2]; exact alloc_at_top _ _ (by simp)
  have hs22 : w2.heap.size = w1.heap.size + 1 + 1 := by rw [hw2]; simp
  have H2 := Lib.hid ((H.out.pure HB.out).kept hfr2 (by omega) (by omega))
  have HQ2 := Lib.hid (And.intro hq2 (And.intro hc2 (And.intro hu2 hst2)))
  have HF2 := Lib.hid hfr2
  have hxs : x.size ≤ 140737488355328 := by
    have h1 := size_of_list HX.out
    obtain ⟨_, _, _, hl1, _⟩ := mayB_all HM.out
    rw [h1, Crc.seal_length, manBytes_length]
    omega
  have HDK := Lib.hid (show dkSwap st g l = swapEnd (swapL x.data.toList [0, 1, 2, 3, 4] st).2 (swapL x.data.toList [0, 1, 2, 3, 4] st).1 from by unfold dkSwap; rw [HM.out, HX.out]; rfl)
  have FIN := Lib.hid (show ∀ (wa wb : World), Fr (fun k => k = p ∨ k = b ∨ k = w.heap.size + 1 + 1) w2 wa → Fr (fun k => k = p ∨ k = b ∨ k = w.heap.size + 1 + 1) wa wb → DFr p b w wb from fun wa wb h1 h2 =>
    ((Fr.pure (S := fun k => k = p ∨ k = b) HB.out).then hfr2 (fun i hi e => by omega)).then (h1.trans h2) (fun i hi e => by omega))
  clear hw2 hq2 hc2 hu2 hst2 hfr2 hq hcb c1 z1
  go_loopw [29] (fun i wr => ∃ (k : Nat) (st' : DkSt) (code : Int), i = .int .i64 k ∧ k ≤ 5 ∧ swapL x.data.toList [0, 1, 2, 3, 4] st = swapL x.data.toList ([0, 1, 2, 3, 4].drop k) st' ∧ IsDk wr p b st' ∧ wr.heap[w.heap.size + 1 + 1]? = some (.cells #[.int .i64 code] 27 (0, 0)) ∧ Fr (fun k => k = p ∨ k = b ∨ k = w.heap.size + 1 + 1) w2 wr) (fun i _ => 5 - (intOf i).toNat)
  case atStart =>
    have e := HW2.out
    unfold stepCells at e
    rw [← e]
    exact ⟨0, st, 0, rfl, by omega, rfl, H2.out, HQ2.out.2.1, Fr.refl _ _⟩
  case round =>
    obtain ⟨k, st', code, rfl, hk, hL, hd, hc, hf⟩ := hrel
    have HR0 := Lib.hid (And.intro hL (And.intro hd (And.intro hc hf)))
    have hsz := hf.size
    have hq := hf.cellAt HQ2.out.1 (by omega)
    have hu := hf.cellAt HQ2.out.2.2.1 (by omega)
    have hst := hf.heapAt HQ2.out.2.2.2 (by omega)
    by_cases hk5 : k < 5
    · clear HR0
      obtain ⟨fk, caps, hent, ha1, ha2, hcon⟩ := step_at w.heap.size w1.heap.size p b k x hxs hk5
      have he : ∀ (args : Array Value) (w : World), (callFunc fk args).run Tryz.prog w = .ok (.enter fk args) w := hent
      have g1 : wr.cell? ⟨w1.heap.size + 1, k * 2, none⟩ = some (.func (.func fk) #[] caps) := by rw [cell_of_row wr _ _ _ _ _ hst]; exact ha1
      have g2 : wr.cell? ⟨w1.heap.size + 1, k * 2 + 1, none⟩ = some (.bool (decide (k = 0))) := by rw [cell_of_row wr _ _ _ _ _ hst]; exact ha2
      obtain ⟨lk, hlk⟩ : ∃ lk, lk = decide (k = 0) := ⟨_, rfl⟩
      rw [← hlk] at g2
      have HLK := Lib.hid hlk
      have hcl : w.heap.size + 1 + 1 < wr.heap.size := lt_of_block hc
      have hbz : Below wr.heap.size wr (wr.alloc (.cells #[.func (.func fk) #[] caps, .bool lk] 143)) := (Below.refl _ _).alloc (Nat.le_refl _) _
      have HCON := Lib.hid (hcon _ st' (hd.pure hbz) ((hbz.cell (ltOfCell hq)).trans hq) ((hbz.cell (ltOfCell hu)).trans hu))
      have HR := Lib.hid (And.intro hL (And.intro hd (And.intro hc hf)))
      have hqq := Lib.hid hq
      clear hlk hent ha1 ha2 hcon hL hd hc hf hst hq hu
      go_wp2_with fail
      refine HCON.out.mono ?_
      rintro e w4 ⟨rfl, hd4, hf4⟩
      have hstep := swapL_drop (s := x.data.toList) (st := st') hk5
      obtain ⟨r4, hr4⟩ : ∃ r4, r4 = stepF x.data.toList k st' := ⟨_, rfl⟩
      rw [← hr4] at hstep hd4 ⊢
      obtain ⟨st4, cd⟩ := r4
      simp only at hd4 hstep
      obtain ⟨hL, hd, hc, hf⟩ := HR.out
      have hne : ¬ (w.heap.size + 1 + 1 = p ∨ w.heap.size + 1 + 1 = b) := by omega
      have hs4 := hf4.size
      simp at hs4
      have hc4 := hf4.heapAt ((Below.heap_alloc _ _ _ hcl).trans hc) hne
      have hq4 := hf4.cellAt ((hbz.cell (ltOfCell hqq.out)).trans hqq.out) (by omega)
      have b1 : w4.cell? ⟨wr.heap.size, 0, none⟩ = some (.func (.func fk) #[] caps) := hf4.cellAt (by rw [World.cell?_alloc_at _ _ _ _ rfl]; rfl) (by omega)
      have b2 : w4.cell? ⟨wr.heap.size, 1, none⟩ = some (.bool lk) := hf4.cellAt (by rw [World.cell?_alloc_at _ _ _ _ rfl]; rfl) (by omega)
      have b3 : w4.cell? ⟨w.heap.size + 1 + 1, 0, none⟩ = some (.int .i64 code) := by rw [cell_of_row w4 _ _ _ _ _ hc4]; rfl
      have b4 : w4.frozen? ⟨w.heap.size + 1 + 1, 0, none⟩ = false := frozen_of_row w4 _ 0 _ _ hc4
      have H5 := Lib.hid (show IsDk (w4.setCell ⟨w.heap.size + 1 + 1, 0, none⟩ (.int .i64 cd)) p b st4 from hd4.kept (setCell_fr _ _) (by show ¬ p = w.heap.size + 1 + 1; omega) (by show ¬ b = w.heap.size + 1 + 1; omega))
      have HC5 := Lib.hid (show (w4.setCell ⟨w.heap.size + 1 + 1, 0, none⟩ (.int .i64 cd)).heap[w.heap.size + 1 + 1]? = some (.cells #[.int .i64 cd] 27 (0, 0)) from one_setCell hc4)
      have HQ5 := Lib.hid (show (w4.setCell ⟨w.heap.size + 1 + 1, 0, none⟩ (.int .i64 cd)).cell? ⟨w.heap.size, 0, none⟩ = some (.pointer (some ⟨p, 0, none⟩)) from (setCell_fr _ _).cellAt hq4 (by show ¬ w.heap.size = w.heap.size + 1 + 1; omega))
      have HF5 := Lib.hid (show Fr (fun k => k = p ∨ k = b ∨ k = w.heap.size + 1 + 1) w2 (w4.setCell ⟨w.heap.size + 1 + 1, 0, none⟩ (.int .i64 cd)) from ((hf.andPure hbz).trans (hf4.mono (fun _ _ h => by omega))).setCell ⟨w.heap.size + 1 + 1, 0, none⟩ (fun _ => .inr (.inr rfl)) _)
      have HL := Lib.hid (hL.trans hstep)
      clear hL hd hc hf hd4 hf4 hc4 hq4 hstep hr4 hbz g1 g2
      by_cases h0 : cd = 0
      · obtain rfl : cd = 0 := h0
        have hgo := Lib.hid (show swapL x.data.toList [0, 1, 2, 3, 4] st = swapL x.data.toList ([0, 1, 2, 3, 4].drop (k + 1)) st4 from HL.out.trans (if_neg (by simp)))
        go_wp2
        go_roundw
        case rel => exact ⟨k + 1, st4, 0, by go_num, by omega, hgo.out, H5.out, HC5.out, HF5.out⟩
        case measure => simp [intOf]; omega
      · have hcd0 : (cd == 0) = false := by simpa using h0
        by_cases hk0 : k = 0
        · obtain rfl : lk = true := by rw [HLK.out]; simpa using hk0
          by_cases h5 : cd = 5
          · obtain rfl : cd = 5 := h5
            have hgo := Lib.hid (show swapL x.data.toList [0, 1, 2, 3, 4] st = swapL x.data.toList ([0, 1, 2, 3, 4].drop (k + 1)) st4 from HL.out.trans (if_neg (by simp [hk0])))
            go_wp2
            go_roundw
            case rel => exact ⟨k + 1, st4, 5, by go_num, by omega, hgo.out, H5.out, HC5.out, HF5.out⟩
            case measure => simp [intOf]; omega
          · have hcd5 : (cd == 5) = false := by simpa using h5
            have hgo := Lib.hid (show swapL x.data.toList [0, 1, 2, 3, 4] st = (st4, cd) from HL.out.trans (if_pos ⟨h0, fun h => h5 h.2⟩))
            go_wp2
            refine swap_door _ p b (w.heap.size + 1 + 1) w.heap.size st4 cd _ (by rfl) (H5.out.kept (setCell_fr _ _) (by show ¬ p = w.heap.size + 1 + 1; omega) (by show ¬ b = w.heap.size + 1 + 1; omega)) (one_setCell HC5.out) ((setCell_fr _ _).cellAt HQ5.out (by show ¬ w.heap.size = w.heap.size + 1 + 1; omega)) (by omega) (by omega) _ (fun w' hd' hf' => ?_)
            rw [HDK.out]
            exact ⟨by rw [hgo.out], by rw [hgo.out]; exact hd', FIN.out _ _ (HF5.out.setCell ⟨w.heap.size + 1 + 1, 0, none⟩ (fun _ => .inr (.inr rfl)) _) hf'⟩
        · obtain rfl : lk = false := by rw [HLK.out]; simpa using hk0
          have hgo := Lib.hid (show swapL x.data.toList [0, 1, 2, 3, 4] st = (st4, cd) from HL.out.trans (if_pos ⟨h0, fun h => hk0 h.1⟩))
          go_wp2
          refine swap_door _ p b (w.heap.size + 1 + 1) w.heap.size st4 cd _ (by rfl) (H5.out.kept (setCell_fr _ _) (by show ¬ p = w.heap.size + 1 + 1; omega) (by show ¬ b = w.heap.size + 1 + 1; omega)) (one_setCell HC5.out) ((setCell_fr _ _).cellAt HQ5.out (by show ¬ w.heap.size = w.heap.size + 1 + 1; omega)) (by omega) (by omega) _ (fun w' hd' hf' => ?_)
          rw [HDK.out]
          exact ⟨by rw [hgo.out], by rw [hgo.out]; exact hd', FIN.out _ _ (HF5.out.setCell ⟨w.heap.size + 1 + 1, 0, none⟩ (fun _ => .inr (.inr rfl)) _) hf'⟩
    · clear hL hd hc hf
      obtain rfl : k = 5 := by omega
      obtain ⟨hL, hd, hc, hf⟩ := HR0.out
      have hcl : w.heap.size + 1 + 1 < wr.heap.size := lt_of_block hc
      have b3 : wr.cell? ⟨w.heap.size + 1 + 1, 0, none⟩ = some (.int .i64 code) := by rw [cell_of_row wr _ _ _ _ _ hc]; rfl
      have b4 : wr.frozen? ⟨w.heap.size + 1 + 1, 0, none⟩ = false := frozen_of_row wr _ 0 _ _ hc
      have H5 := Lib.hid (show IsDk (wr.setCell ⟨w.heap.size + 1 + 1, 0, none⟩ (.int .i64 0)) p b st' from hd.kept (setCell_fr _ _) (by show ¬ p = w.heap.size + 1 + 1; omega) (by show ¬ b = w.heap.size + 1 + 1; omega))
      have HC5 := Lib.hid (show (wr.setCell ⟨w.heap.size + 1 + 1, 0, none⟩ (.int .i64 0)).heap[w.heap.size + 1 + 1]? = some (.cells #[.int .i64 0] 27 (0, 0)) from one_setCell hc)
      have HQ5 := Lib.hid (show (wr.setCell ⟨w.heap.size + 1 + 1, 0, none⟩ (.int .i64 0)).cell? ⟨w.heap.size, 0, none⟩ = some (.pointer (some ⟨p, 0, none⟩)) from (setCell_fr _ _).cellAt hq (by show ¬ w.heap.size = w.heap.size + 1 + 1; omega))
      have HF5 := Lib.hid (hf.setCell ⟨w.heap.size + 1 + 1, 0, none⟩ (fun _ => .inr (.inr rfl)) (.int .i64 0))
      have hgo := Lib.hid (show swapL x.data.toList [0, 1, 2, 3, 4] st = (st', 0) from hL)
      clear hL hd hc hf hq hu hst
      go_wp2
      refine swap_door _ p b (w.heap.size + 1 + 1) w.heap.size st' 0 _ (by rfl) H5.out HC5.out HQ5.out (by omega) (by omega) _ (fun w' hd' hf' => ?_)
      rw [HDK.out]
      exact ⟨by rw [hgo.out], by rw [hgo.out]; exact hd', FIN.out _ _ HF5.out hf'⟩

end Go.Proofs.YtcdjckdbcffgdaaGreatDoor
