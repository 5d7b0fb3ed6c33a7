/- Files and numbers that came in; what is laid for StoreDrop. -/
import Derived.Test.YteikdcobpfohcaaGreatDoorMkLfz
import Derived.Test.YteikdcobpfohcaaGreatDoorMFk
import Derived.Test.YteikdcobpfohcaaGreatDoorTie
import Derived.Test.YteikdcobpfohcaaGreatDoorCards
import Derived.SizedLaws
import Derived.Deep.Slices
namespace Go.Proofs.YteikdcobpfohcaaGreatDoor
open Go.ChangeShapes Go.WideShapes Go.ChangeAt Go.RowKit

section
variable {H : Type} {enc : TypeId × Value → H} {P : Program} {w : World} {base : Nat} {spare : Nat → Bool} {held : Bool}
theorem trodAll_five {t0 t1 t2 t3 t4 : TypeId} {args : Array Value} {ds : List (DataW H)} {ps : List MemPlace} (h : DataW.TrodAll enc P w base spare held [t0, t1, t2, t3, t4] args.toList ds ps) :
    ∃ v0 v1 v2 v3 v4 d0 d1 d2 d3 d4 p0 p1 p2 p3 p4, args = #[v0, v1, v2, v3, v4] ∧ ds = [d0, d1, d2, d3, d4] ∧ ps = p0 ++ (p1 ++ (p2 ++ (p3 ++ p4))) ∧ DataW.Trod enc P w base spare held t0 v0 d0 p0 ∧ DataW.Trod enc P w base spare held t1 v1 d1 p1 ∧ DataW.Trod enc P w base spare held t2 v2 d2 p2 ∧ DataW.Trod enc P w base spare held t3 v3 d3 p3 ∧ DataW.Trod enc P w base spare held t4 v4 d4 p4 := by
  obtain ⟨v0, vs0, d0, ds0, p0, q0, hargs, rfl, rfl, h0, r0⟩ := trodAll_cons h
  obtain ⟨v1, vs1, d1, ds1, p1, q1, rfl, rfl, rfl, h1, r1⟩ := trodAll_cons r0
  obtain ⟨v2, v3, v4, d2, d3, d4, p2, p3, p4, e, rfl, rfl, h2, h3, h4⟩ := trodAll_three (args := vs1.toArray) (by simpa using r1)
  have e2 : vs1 = [v2, v3, v4] := by simpa using congrArg Array.toList e
  exact ⟨v0, v1, v2, v3, v4, d0, d1, d2, d3, d4, p0, p1, p2, p3, p4, by cases args; simp_all, rfl, by simp, h0, h1, h2, h3, h4⟩
theorem trodAll_mk5 {t0 t1 t2 t3 t4 : TypeId} {v0 v1 v2 v3 v4 : Value} {d0 d1 d2 d3 d4 : DataW H} {p0 p1 p2 p3 p4 : List MemPlace} (h0 : DataW.Trod enc P w base spare held t0 v0 d0 p0) (h1 : DataW.Trod enc P w base spare held t1 v1 d1 p1)
    (h2 : DataW.Trod enc P w base spare held t2 v2 d2 p2) (h3 : DataW.Trod enc P w base spare held t3 v3 d3 p3) (h4 : DataW.Trod enc P w base spare held t4 v4 d4 p4) : DataW.TrodAll enc P w base spare held [t0, t1, t2, t3, t4] [v0, v1, v2, v3, v4] [d0, d1, d2, d3, d4] (p0 ++ (p1 ++ (p2 ++ (p3 ++ p4)))) :=
  ⟨p0, p1 ++ (p2 ++ (p3 ++ p4)), h0, trodAll_mk4 h1 h2 h3 h4, rfl⟩
end

set_option maxRecDepth 10000 in
theorem slice_shape {W : World} {b0 : Nat} {t e : TypeId} {v : Value} (ht : Tryz.prog.underlying t = some (.slice e)) (hv : Value.okWide Tryz.prog W .any b0 t v) : ∃ a n c, v = .slice a n c := by
  unfold Value.okWide at hv
  rw [ht] at hv
  simp only at hv
  unfold Cell.okWide at hv
  rw [ht] at hv
  cases v with
  | slice a n c => exact ⟨a, n, c, rfl⟩
  | _ => simp only at hv; unfold Cell.ok at hv; rw [ht] at hv; exact hv.elim
set_option maxRecDepth 10000 in
/-- A slice that came in lies in memory that is there. -/
theorem slice_lt {W : World} {b0 : Nat} {t e : TypeId} {v : Value} (ht : Tryz.prog.underlying t = some (.slice e)) (hv : Value.okWide Tryz.prog W .any b0 t v) {g : Nat} (hg : v.ownBlock = some g) : g < W.heap.size := by
  unfold Value.okWide at hv
  rw [ht] at hv
  simp only at hv
  unfold Cell.okWide at hv
  rw [ht] at hv
  cases v with
  | slice a n c =>
    cases a with
    | none => cases hg
    | some a =>
      cases hg
      simp only at hv
      unfold Cell.ok at hv
      rw [ht] at hv
      obtain ⟨_, _, _, _, row, cells, hs, _⟩ := hv
      unfold World.shape? at hs
      cases hb : W.heap[a.block]? with
      | none => rw [hb] at hs; cases hs
      | some o => exact lt_of_block hb
  | _ => cases hg

theorem mem_weightsAll {H : Type} {P : Program} {e : TypeId} : ∀ {l : List (DataW H)} {d : DataW H}, d ∈ l → ∀ n ∈ d.weights P e, n ∈ DataW.weightsAll P e l
  | x :: r, d, hd, n, hn => by
    simp only [DataW.weightsAll, List.mem_append]
    rcases List.mem_cons.1 hd with rfl | hd
    · exact .inl hn
    · exact .inr (mem_weightsAll hd n hn)
  | [], _, hd, _, _ => by cases hd

set_option maxRecDepth 100000 in
/-- Numbers that came in. -/
theorem open_numbers {H : Type} {enc : TypeId × Value → H} {W : World} {b0 : Nat} {v : Value} {d : DataW H} {p : List MemPlace} (hv : Value.okWide Tryz.prog W .any b0 67 v) (h : DataW.Trod enc Tryz.prog W 0 (fun _ => true) true 67 v d p) : ∃ ks, IntsAt W v ks ∧ ks.length ≤ maxLen := by
  obtain ⟨va, vn, vc, rfl⟩ := slice_shape Tryz.underlying67 hv
  obtain ⟨fuel, h⟩ := h
  rcases open_ints Tryz.underlying67 Tryz.underlying3 (by kernel_rfl) h with ⟨hc, _⟩ | ⟨a, len, cap, zs, hc, _, hl, hm, hz, _, hcell, hwf⟩
  · have hc' : va = none ∧ vn = 0 ∧ vc = 0 := by simpa [Value.cells] using hc
    obtain ⟨rfl, rfl, rfl⟩ := hc'
    exact ⟨[], ⟨none, 0, rfl, by simp, .inl rfl⟩, by simp⟩
  · have hc' : va = some a ∧ vn = len ∧ vc = cap := by simpa [Value.cells] using hc
    obtain ⟨rfl, rfl, rfl⟩ := hc'
    have hzl : zs.length = vc := by simpa using hz
    refine ⟨zs.take vn, ⟨some a, vc, by rw [List.length_take, Nat.min_eq_left (by omega)], by rw [List.length_take]; omega, ?_⟩, by rw [List.length_take]; omega⟩
    by_cases h0 : vn = 0
    · subst h0; exact .inl (by simp)
    · obtain ⟨b, o, sp⟩ := a
      have h1 := hcell 0 (by omega)
      have hsp : sp = none := by simpa [Addr.add] using World.cell?_spot h1
      subst hsp
      refine .inr ⟨b, o, rfl, fun i hi => ?_⟩
      rw [List.length_take] at hi
      have := hcell i (by omega)
      rw [add_plain] at this
      rw [this, List.getElem_take]
      simp [List.getD, List.getElem?_eq_getElem (show i < zs.length by omega)]

set_option maxRecDepth 100000 in
/-- Files that came in. -/
theorem open_files {H : Type} {enc : TypeId × Value → H} {W : World} {b0 : Nat} {v : Value} {d : DataW H} {p : List MemPlace} (hv : Value.okWide Tryz.prog W .any b0 54 v) (h : DataW.Trod enc Tryz.prog W 0 (fun _ => true) true 54 v d p)
    (hw : ∀ n ∈ d.weights Tryz.prog 54, n ≤ reachBytes) : ∃ l, FilesAt W v l ∧ l.length ≤ 1099511627776 * 4 ∧ (∀ f ∈ l, f.name.length ≤ reachBytes ∧ f.firm.length ≤ reachBytes ∧ f.pend.length ≤ reachBytes) := by
  obtain ⟨va, vn, vc, rfl⟩ := slice_shape Tryz.underlying54 hv
  obtain ⟨fuel, h⟩ := h
  rcases Deep.open_slice Tryz.underlying54 h with ⟨hc, _⟩ | ⟨a, len, cap, m, n, D, Pl, hc, _, hl, hm, hmm, hd, hx⟩
  · have hc' : va = none ∧ vn = 0 ∧ vc = 0 := by simpa [Value.cells] using hc
    obtain ⟨rfl, rfl, rfl⟩ := hc'
    exact ⟨[], ⟨none, 0, rfl, .inl rfl⟩, by simp, by simp⟩
  · have hc' : va = some a ∧ vn = len ∧ vc = cap := by simpa [Value.cells] using hc
    obtain ⟨rfl, rfl, rfl⟩ := hc'
    have hmv : m = vc := by simpa using hmm
    subst hmv
    have e3 : Tryz.prog.cellsOf 59 = 3 := by kernel_rfl
    have eB : Tryz.prog.bytesOf 59 = 48 := by kernel_rfl
    have hdd : d = .slice ((List.range vn).map D) ((List.range (m - vn)).map fun j => D (vn + j)) := by have := congrArg Prod.fst hd; exact this
    have each : ∀ i, i < m → ∃ q : ByteArray × ByteArray × ByteArray, W.cell? (a.add (i * 3)) = some (.string q.1) ∧ W.cell? (a.add (i * 3 + 1)) = some (.string q.2.1) ∧ W.cell? (a.add (i * 3 + 2)) = some (.string q.2.2) ∧ D i = .agg [.lit (.string q.1.data.toList), .lit (.string q.2.1.data.toList), .lit (.string q.2.2.data.toList)] := by
      intro i hi
      obtain ⟨cs', h1, h2⟩ := hx i hi
      rw [e3] at h1
      obtain ⟨_, hlen, hcell⟩ := World.cells?_some h1
      obtain ⟨xs, k, _, hxy, _, hxl, hf⟩ := DataW.trod_struct Tryz.underlying59 h2
      match xs, hxl, cs', hlen with
      | [y0, y1, y2], _, [u0, u1, u2], _ =>
        have g0 := hf 0 _ rfl
        have g1 := hf 1 _ rfl
        have g2 := hf 2 _ rfl
        have c1 : Tryz.prog.cellsOf 9 = 1 := by kernel_rfl
        simp [c1] at g0 g1 g2
        obtain ⟨s0, e0, f0, _⟩ := DataW.trod_string Tryz.underlying9 g0
        obtain ⟨s1, e1, f1, _⟩ := DataW.trod_string Tryz.underlying9 g1
        obtain ⟨s2, e2, f2, _⟩ := DataW.trod_string Tryz.underlying9 g2
        have k0 := hcell 0 (by omega)
        have k1 := hcell 1 (by omega)
        have k2 := hcell 2 (by omega)
        rw [Deep.add_add] at k0 k1 k2
        simp at e0 e1 e2
        subst e0 e1 e2 f0 f1 f2
        simp only [Prod.mk.injEq] at hxy
        exact ⟨(s0, s1, s2), by simpa using k0, by simpa using k1, by simpa using k2, by simpa using hxy.1⟩
    obtain ⟨q, hq⟩ := Deep.choose_lt each
    have hwt : ∀ i, i < vn → (q i).1.data.toList.length ≤ reachBytes ∧ (q i).2.1.data.toList.length ≤ reachBytes ∧ (q i).2.2.data.toList.length ≤ reachBytes := by
      intro i hi
      have hmem : D i ∈ (List.range vn).map D := List.mem_map.2 ⟨i, List.mem_range.2 hi, rfl⟩
      have hall : ∀ n ∈ (D i).weights Tryz.prog 59, n ≤ reachBytes := fun n hn => hw n (by
        rw [hdd]
        simp only [DataW.weights, Tryz.underlying54, List.mem_cons, List.mem_append]
        exact .inr (.inl (mem_weightsAll hmem n hn)))
      rw [(hq i (by omega)).2.2.2] at hall
      have hW : ∀ (A B C : List UInt8), (DataW.agg [.lit (.string A), .lit (.string B), .lit (.string C)] : DataW H).weights Tryz.prog 59 = [A.length, B.length, C.length] := by
        intro A B C
        simp [DataW.weights, Tryz.underlying59, DataW.weightsEach]
      rw [hW] at hall
      exact ⟨hall _ (by simp), hall _ (by simp), hall _ (by simp)⟩
    have hlen : (vn + (m - vn)) * 48 ≤ reachBytes := hw _ (by
      rw [hdd]
      simp only [DataW.weights, Tryz.underlying54, List.mem_cons, List.length_map, List.length_range, eB]
      exact .inl trivial)
    have hr : reachBytes < 2 ^ 47 := reachBytes_lt
    refine ⟨(List.range vn).map fun i => ⟨(q i).1.data.toList, (q i).2.1.data.toList, (q i).2.2.data.toList⟩, ⟨some a, m, by simp, ?_⟩, by simp; omega, ?_⟩
    · by_cases h0 : vn = 0
      · subst h0; exact .inl rfl
      · obtain ⟨b, o, sp⟩ := a
        have hsp : sp = none := by simpa [Addr.add] using World.cell?_spot (hq 0 (by omega)).1
        subst hsp
        refine .inr ⟨b, o, rfl, fun i hi => ?_⟩
        have hi' : i < vn := by simpa using hi
        obtain ⟨k1, k2, k3, _⟩ := hq i (by omega)
        rw [add_plain] at k1 k2 k3
        simp only [List.getElem_map, List.getElem_range]
        exact ⟨_, _, _, rfl, rfl, rfl, k1, k2, k3⟩
    · intro f hf
      obtain ⟨i, hi, rfl⟩ := List.mem_map.1 hf
      exact hwt i (List.mem_range.1 hi)

theorem libz_of_laid {W : World} (h : laidMetH Tryz.prog Rows.storeDropRow.laid W) : Libz W := by
  rw [MakeChecks.laidMetH_plain _ _ _ (by kernel_rfl)] at h
  obtain ⟨ps, ⟨_, _, _, _, _, _, _, _, _, _, ⟨_, _, _, _, _, _, _, _, _, _, ⟨g, t, cs, fuel, p, q, hg, ht, hv, hd, ⟨_, _, _, _, _, _, _, _, _, _, ⟨g5, t5, cs5, f5, p5, q5, hg5, ht5, hv5, hd5, ⟨g6, t6, cs6, f6, p6, q6, hg6, ht6, hv6, hd6, _⟩, _⟩, _⟩, _⟩, _⟩, _⟩, _, _⟩ := h
  obtain rfl := Option.some.inj ((show Tryz.prog.globalNamed "internal/strconv.uint64pow10" = some 2 by kernel_rfl).symm.trans hg)
  obtain rfl := Option.some.inj ((show (Tryz.prog.globals[2]?).map (·.type) = some 265 by kernel_rfl).symm.trans ht)
  obtain rfl := Option.some.inj ((show Tryz.prog.globalNamed "strconv.ErrRange" = some 1 by kernel_rfl).symm.trans hg5)
  obtain rfl := Option.some.inj ((show (Tryz.prog.globals[1]?).map (·.type) = some 71 by kernel_rfl).symm.trans ht5)
  obtain rfl := Option.some.inj ((show Tryz.prog.globalNamed "strconv.ErrSyntax" = some 0 by kernel_rfl).symm.trans hg6)
  obtain rfl := Option.some.inj ((show (Tryz.prog.globals[0]?).map (·.type) = some 71 by kernel_rfl).symm.trans ht6)
  have hc := Lib.cells_of_tab (zs := Lib.pow10Tab) Tryz.underlying265 Tryz.underlying101 (by kernel_rfl) (by kernel_rfl) (show DataW.trod _ _ _ _ _ _ _ _ _ = some (Lib.tabData .u64 Lib.pow10Tab, _) from hd)
  refine ⟨?_, err_in_var (by kernel_rfl) hv6 hd6, err_in_var (by kernel_rfl) hv5 hd5⟩
  unfold Pow Lib.TabIs
  rw [hv, ← hc]

end Go.Proofs.YteikdcobpfohcaaGreatDoor
