/- SeglogFull, plainly. -/
import Derived.Test.YtcdjckdbcffgdaaGreatDoorMAo
import Derived.Test.YtcdjckdbcffgdaaGreatDoorChecked
import Derived.ProofKit
import Derived.OpenShut
import Derived.LaidMore
import Derived.Lay
import Derived.Lib.LaidTab
import Derived.Deep.SlicePairs
import Derived.Lib.SmallJoins
import Derived.SevenTiedAt
import Derived.Stop.Joined
import Derived.SizedLaws
import Derived.Deep.Slices
import Derived.SliceStrings
import Derived.Test.YtcdjckdbcffgdaaGreatDoorMCg
import Derived.Test.YtcdjckdbcffgdaaGreatDoorMAa
namespace Go.Proofs.YtcdjckdbcffgdaaGreatDoor

theorem at_new {l : LgSt} (hk : LgOk l) {l' : LgSt} {p : List UInt8} (ha : l'.all = l.all ++ [p]) : l'.at (l.next - l.first.toNat) = p := by
  have h0 : 0 < l.ix.length := by rw [hk.len]; exact hk.pos
  have h1 := next_eq hk h0
  have h2 := first_eq hk h0
  unfold LgSt.at
  rw [ha, show l.next - l.first.toNat = l.all.length from by omega]
  simp
theorem first_le {l : LgSt} (hk : LgOk l) : l.first ≤ (l.next : Int) := by
  have h0 : 0 < l.ix.length := by rw [hk.len]; exact hk.pos
  have h1 := next_eq hk h0
  have h2 := first_eq hk h0
  omega
/-- How heavy texts are. -/
def payN (ss : List ByteArray) : Nat := (ss.map fun s => 40 + s.size).sum
theorem payN_snoc {ss : List ByteArray} {k : Nat} (h : k < ss.length) : payN (ss.take (k + 1)) = payN (ss.take k) + 40 + ss[k].size := by
  unfold payN
  rw [List.take_succ_eq_append_getElem h, List.map_append, List.sum_append, List.map_singleton, List.sum_singleton]
  omega
theorem payN_len (ss : List ByteArray) : ss.length * 40 ≤ payN ss := by
  unfold payN
  induction ss with
  | nil => simp
  | cons s r ih => simp only [List.length_cons, List.map_cons, List.sum_cons]; omega
theorem payN_mem {ss : List ByteArray} {s : ByteArray} (h : s ∈ ss) : s.size ≤ payN ss := by
  unfold payN
  induction ss with
  | nil => simp at h
  | cons t r ih =>
    simp only [List.map_cons, List.sum_cons]
    rcases List.mem_cons.1 h with rfl | h
    · omega
    · have := ih h; omega
/-- A log that stands on a disk that has power. -/
structure Stands (st : DkSt) (l : LgSt) (cp : Int) : Prop where
  on : On st
  lg : LgOn st l
  cap : st.cap = cp
theorem full_step {st : DkSt} {l : LgSt} {cp : Int} (p : List UInt8) (h : Stands st l cp) (ha : Apart st.fs) (hk : LgOk l) :
    (∃ st' l', lgAppend st l p = ((st', l'), 0) ∧ Stands st' l' cp ∧ l'.next = l.next + 1 ∧ l'.first = l.first ∧ l'.at (l.next - l.first.toNat) = p) ∨
    (∃ c, c ≠ 0 ∧ lgAppend st l p = ((st, l), c) ∧ (c = 44 → cp < (used st.fs : Int) + 16 + (p.length : Int) + 1200 ∨ 62 < st.fs.length)) := by
  rcases app_on p h.on ha hk h.lg with ⟨fs', l', e, _, h2, h3, h4, h5, _⟩ | ⟨c, h1, e, h2⟩
  · exact .inl ⟨_, l', e, ⟨h.on.put _, h2, h.cap⟩, h3, h5, at_new hk h4⟩
  · exact .inr ⟨c, h1, e, fun h9 => by rw [← h.cap]; exact h2 h9⟩
end Go.Proofs.YtcdjckdbcffgdaaGreatDoor

/- Arguments that came in: a Config, texts. -/
namespace Go.Proofs.YtcdjckdbcffgdaaGreatDoor
open Go.ChangeShapes Go.WideShapes Go.ChangeAt Go.RowKit

theorem ownKnobNone : ownKnob Tryz.prog.godebug = none := by kernel_rfl
theorem laidOutAll : laidOutB Tryz.prog = true := by kernel_rfl

set_option maxRecDepth 10000 in
theorem slice_shape {W : World} {b0 : Nat} {t e : TypeId} {v : Value} (ht : Tryz.prog.underlying t = some (.slice e)) (hv : Value.okWide Tryz.prog W .any b0 t v) : ∃ a n c, v = .slice a n c := by
  unfold Value.okWide at hv
  rw [ht] at hv
  simp only at hv
  unfold Cell.okWide at hv
  rw [ht] at hv
  cases v with
  | slice a n c => exact ⟨a, n, c, rfl⟩
  | _ => simp only at hv; unfold Cell.ok at hv; rw [ht] at hv; exact hv.elim
set_option maxRecDepth 10000 in
/-- A slice that came in lies in memory that is there. -/
theorem slice_lt {W : World} {b0 : Nat} {t e : TypeId} {v : Value} (ht : Tryz.prog.underlying t = some (.slice e)) (hv : Value.okWide Tryz.prog W .any b0 t v) {g : Nat} (hg : v.ownBlock = some g) : g < W.heap.size := by
  unfold Value.okWide at hv
  rw [ht] at hv
  simp only at hv
  unfold Cell.okWide at hv
  rw [ht] at hv
  cases v with
  | slice a n c =>
    cases a with
    | none => cases hg
    | some a =>
      cases hg
      simp only at hv
      unfold Cell.ok at hv
      rw [ht] at hv
      obtain ⟨_, _, _, _, row, cells, hs, _⟩ := hv
      unfold World.shape? at hs
      cases hb : W.heap[a.block]? with
      | none => rw [hb] at hs; cases hs
      | some o => exact lt_of_block hb
  | _ => cases hg

theorem mem_weightsAll {H : Type} {P : Program} {e : TypeId} : ∀ {l : List (DataW H)} {d : DataW H}, d ∈ l → ∀ n ∈ d.weights P e, n ∈ DataW.weightsAll P e l
  | x :: r, d, hd, n, hn => by
    simp only [DataW.weightsAll, List.mem_append]
    rcases List.mem_cons.1 hd with rfl | hd
    · exact .inl hn
    · exact .inr (mem_weightsAll hd n hn)
  | [], _, hd, _, _ => by cases hd

/-- A slice of texts that came in. -/
def StrsAt (w : World) (sv : Value) (ss : List ByteArray) : Prop :=
  ∃ a c, sv = .slice a ss.length c ∧ (ss = [] ∨ ∃ b o, a = some ⟨b, o, none⟩ ∧ ∀ i (h : i < ss.length), w.cell? ⟨b, o + i, none⟩ = some (.string ss[i]))
theorem StrsAt.shape {w : World} {sv : Value} {ss : List ByteArray} (h : StrsAt w sv ss) : ∃ a c, sv = .slice a ss.length c := by obtain ⟨a, c, h, _⟩ := h; exact ⟨a, c, h⟩
theorem StrsAt.pure {w w' : World} {sv : Value} {ss : List ByteArray} (h : StrsAt w sv ss) (hb : Below w.heap.size w w') : StrsAt w' sv ss := by
  obtain ⟨a, c, e, h | ⟨b, o, e2, h⟩⟩ := h
  · exact ⟨a, c, e, .inl h⟩
  · exact ⟨a, c, e, .inr ⟨b, o, e2, fun i hi => (hb.cell (p := ⟨b, o + i, none⟩) (ltOfCell (h i hi))).trans (h i hi)⟩⟩
theorem StrsAt.at {w : World} {a : Option Addr} {n c : Nat} {ss : List ByteArray} (h : StrsAt w (.slice a n c) ss) (i : Nat) (hi : i < ss.length) : ∃ b o, a = some ⟨b, o, none⟩ ∧ b < w.heap.size ∧ w.cell? ⟨b, o + i, none⟩ = some (.string ss[i]) := by
  obtain ⟨a', c', e, h | ⟨b, o, e2, h⟩⟩ := h
  · rw [h] at hi; simp at hi
  · cases e
    exact ⟨b, o, e2, ltOfCell (h i hi), h i hi⟩

set_option maxRecDepth 100000 in
theorem open_texts {H : Type} {enc : TypeId × Value → H} {W : World} {b0 : Nat} {v : Value} {d : DataW H} {p : List MemPlace} (hv : Value.okWide Tryz.prog W .any b0 24 v) (h : DataW.Trod enc Tryz.prog W 0 (fun _ => true) true 24 v d p)
    (hw : ∀ n ∈ d.weights Tryz.prog 24, n ≤ reachBytes) : ∃ ss, StrsAt W v ss ∧ ss.length * 16 ≤ reachBytes ∧ ∀ s ∈ ss, s.size ≤ reachBytes := by
  obtain ⟨va, vn, vc, rfl⟩ := slice_shape Tryz.underlying24 hv
  obtain ⟨fuel, h⟩ := h
  rcases open_strings Tryz.underlying24 Tryz.underlying9 (by kernel_rfl) h with ⟨hc, _⟩ | ⟨a, len, cap, zs, hc, _, hl, hm, hz, hx, hcell, hsz⟩
  · have hc' : va = none ∧ vn = 0 ∧ vc = 0 := by simpa [Value.cells] using hc
    obtain ⟨rfl, rfl, rfl⟩ := hc'
    exact ⟨[], ⟨none, 0, rfl, .inl rfl⟩, by simp, by simp⟩
  · have hc' : va = some a ∧ vn = len ∧ vc = cap := by simpa [Value.cells] using hc
    obtain ⟨rfl, rfl, rfl⟩ := hc'
    have hzl : zs.length = vc := by simpa using hz
    have hd : d = .slice (strs (zs.take vn)) (strs (zs.drop vn)) := congrArg Prod.fst hx
    have eB : Tryz.prog.bytesOf 9 = 16 := by kernel_rfl
    have hwe : ∀ s ∈ zs.take vn, s.size ≤ reachBytes := fun s hs => by
      have hmem : (.lit (.string s.data.toList) : DataW H) ∈ strs (zs.take vn) := List.mem_map.2 ⟨s, hs, rfl⟩
      have h9 : ∀ n ∈ (.lit (.string s.data.toList) : DataW H).weights Tryz.prog 9, n ≤ reachBytes := fun n hn => hw n (by
        rw [hd]
        simp only [DataW.weights, Tryz.underlying24, List.mem_cons, List.mem_append]
        exact .inr (.inl (mem_weightsAll hmem n hn)))
      have h8 := h9 s.data.toList.length (by simp [DataW.weights])
      rwa [size_toList] at h8
    have hlen : vn * 16 ≤ reachBytes := Nat.le_trans (Nat.mul_le_mul_right 16 hl) (hw _ (by
      rw [hd]
      simp only [DataW.weights, Tryz.underlying24, List.mem_cons, eB]
      left
      unfold strs
      simp only [List.length_map, List.length_take, List.length_drop]
      congr 1
      omega))
    refine ⟨zs.take vn, ⟨some a, vc, by rw [List.length_take, Nat.min_eq_left (by omega)], ?_⟩, by rw [List.length_take, Nat.min_eq_left (by omega)]; exact hlen, hwe⟩
    by_cases h0 : vn = 0
    · subst h0; exact .inl (by simp)
    · obtain ⟨b, o, sp⟩ := a
      have h1 := hcell 0 (by omega)
      have hsp : sp = none := by simpa [Addr.add] using World.cell?_spot h1
      subst hsp
      refine .inr ⟨b, o, rfl, fun i hi => ?_⟩
      rw [List.length_take] at hi
      have := hcell i (by omega)
      rw [add_plain] at this
      rw [this, List.getElem_take]
      simp [List.getD, List.getElem?_eq_getElem (show i < zs.length by omega)]

set_option maxRecDepth 100000 in
/-- A Config that came in. -/
theorem open_config {H : Type} {enc : TypeId × Value → H} {W : World} {b0 : Nat} {v : Value} {d : DataW H} {p : List MemPlace} (hv : Value.okWide Tryz.prog W .any b0 23 v) (h : DataW.Trod enc Tryz.prog W 0 (fun _ => true) true 23 v d p) :
    ∃ x y z : Int, v = .agg #[.int .i64 x, .int .i64 y, .int .u8 z] ∧ 0 ≤ z ∧ z ≤ 255 := by
  obtain ⟨v0, v1, v2, y0, y1, y2, n, rfl, _, _, h0, h1, h2⟩ := Joins.open_agg3 Tryz.underlying23 (by kernel_rfl) (by kernel_rfl) hv h
  obtain ⟨x, e0, _, _⟩ := DataW.trod_int Tryz.underlying3 h0
  obtain ⟨y, e1, _, _⟩ := DataW.trod_int Tryz.underlying3 h1
  obtain ⟨z, e2, _, hw⟩ := DataW.trod_int Tryz.underlying5 h2
  have e0' : v0 = .int .i64 x := by simpa using e0
  have e1' : v1 = .int .i64 y := by simpa using e1
  have e2' : v2 = .int .u8 z := by simpa using e2
  exact ⟨x, y, z, by rw [e0', e1', e2'], bounds_u8 hw⟩
end Go.Proofs.YtcdjckdbcffgdaaGreatDoor
