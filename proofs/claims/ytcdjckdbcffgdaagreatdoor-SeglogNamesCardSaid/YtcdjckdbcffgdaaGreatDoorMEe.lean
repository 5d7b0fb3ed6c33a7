/- The walk of seglog.Read. -/
import Derived.Test.YtcdjckdbcffgdaaGreatDoorMkPay
import Derived.Test.YtcdjckdbcffgdaaGreatDoorMCe
import Derived.Test.YtcdjckdbcffgdaaGreatDoorMAp
import Derived.RangeFuncBox
import Derived.Test.YtcdjckdbcffgdaaGreatDoorMAw
namespace Go.Proofs.YtcdjckdbcffgdaaGreatDoor
open Go.RowKit Go.Shelf
attribute [local go_sem] Oper.semAt_some

theorem payloads_any (g : Nat) (q : Int) (w : World) :
    Calls Tryz.prog 60 #[.pointer (some ⟨g, 0, none⟩), .int .i64 q] w fun e w' => e = .returned (.func (.func 115) #[] #[.pointer (some ⟨w.heap.size + 1, 0, none⟩), .pointer (some ⟨w.heap.size, 0, none⟩)]) ∧
      w' = (w.alloc (.cells #[.pointer (some ⟨g, 0, none⟩)] 30)).alloc (.cells #[.int .i64 q] 2) := by
  have hmf : ∀ (fn : Fn) (first cap : Array Value) (w : World), (Instr.makeFunc fn first cap).run Tryz.prog w = .ok (.func fn first cap) w := fun _ _ _ _ => rfl
  go_enter Tryz.func60, Tryz.ntmps60
  go_wp2
  go_ret
  exact ⟨by simp, rfl⟩

/-- The state of Read's loop: its results' boxes. -/
structure PdAt (w W : World) (b : Nat) (p : ByteArray) (e : Int) : Prop where
  b0 : W.heap[b]? = some (.cells #[.string p] 9 (0, 0))
  b1 : W.heap[b + 1]? = some (.cells #[.int .i64 e] 27 (0, 0))
  below : Below b w W
theorem PdAt.bears {w W W' : World} {b : Nat} {p : ByteArray} {e : Int} (h : PdAt w W b p e) (hf : Fr (fun k => b + 2 ≤ k) W W') : PdAt w W' b p e :=
  ⟨hf.heapAt h.b0 (by omega), hf.heapAt h.b1 (by omega), h.below.trans (hf.below (B := b) (by have := lt_of_block h.b0; omega) (fun k hk => by omega))⟩
def PdStop (w : World) (b : Nat) (c : Code) (pre : List RdX) (W : World) : Prop := c = .ret ∧ ∃ x, pre = [x] ∧ PdAt w W b x.p x.e
def PdRun (w : World) (b : Nat) (pre : List RdX) (W : World) : Prop := pre = [] ∧ PdAt w W b ⟨#[]⟩ 0
theorem PayKeep.trans {F : Nat → Prop} {p b lB sB : Nat} {A B C : World} (h : PayKeep F p b lB sB A B) (k : PayKeep F p b lB sB B C) : PayKeep F p b lB sB A C := ⟨Nat.le_trans h.1 k.1, fun i hi => (k.2 i hi).trans (h.2 i hi)⟩
theorem LgEnv.all_lt {w : World} {F : Nat → Prop} {g p b : Nat} {st : DkSt} {l : LgSt} (h : LgEnv w F g p b st l) (k : Nat) (hk : LgAll F p b k) : k < w.heap.size := by
  rcases hk with hk | rfl | rfl | rfl
  · exact h.lt k hk
  · exact h.dk.lt
  · exact h.dk.own.lt
  · exact pow_lt h.pow

set_option maxRecDepth 100000 in
set_option maxHeartbeats 4000000 in
theorem lg_read_ok (w : World) (F : Nat → Prop) (g p b : Nat) (st : DkSt) (l : LgSt) (h : LgEnv w F g p b st l) (hon : LgOn st l) (hlit : st.dark = false) (q : Nat) (h1 : l.first ≤ (q : Int)) (h2 : q < l.next) :
    Calls Tryz.prog 15 #[.pointer (some ⟨g, 0, none⟩), .int .i64 (q : Int)] w fun e w' => (∃ r : ByteArray, r.data.toList = l.at (q - l.first.toNat) ∧ e = .returned (.tuple #[.string r, .int .i64 0])) ∧ Below w.heap.size w w' := by
  have H := Lib.hid h
  have HON := Lib.hid hon
  have htop := h.ok.top
  have hfew := h.ok.few
  have hlen := h.ok.len
  have hpos := h.ok.pos
  clear h hon
  refine (callsIn_wide (n := 6)).1 ?_
  refine callsIn_of_wp_marks Tryz.func15 rfl trivial ?_ rfl
  simp only [Tryz.ntmps15, List.size_toArray, List.length_cons, List.length_nil, Nat.reduceAdd, Nat.reduceSub, Array.replicate_succ, Array.replicate_zero, List.push_toArray, List.append_toArray, List.nil_append, List.cons_append]
  gi_wp2_with fail
  refine ⟨trivial, ?_⟩
  have hbz := box2_belowX w (.cells #[.string ⟨#[]⟩] 9) (.cells #[.int .i64 0] 27)
  have hk0 : ((w.alloc (.cells #[.string ⟨#[]⟩] 9)).alloc (.cells #[.int .i64 0] 27)).heap[w.heap.size]? = some (.cells #[.string ⟨#[]⟩] 9 (0, 0)) := (Below.heap_alloc _ _ _ (by simp)).trans (heap_alloc_new _ _)
  have hk1 : ((w.alloc (.cells #[.string ⟨#[]⟩] 9)).alloc (.cells #[.int .i64 0] 27)).heap[w.heap.size + 1]? = some (.cells #[.int .i64 0] 27 (0, 0)) := alloc_topX _ _ (by simp)
  refine (callsIn_wide.2 (lg_first _ F g p l (H.out.pure hbz).lg (by omega))).mono ?_
  rintro e w1 ⟨rfl, rfl⟩
  have HM1 := Lib.hid (And.intro hk0 hk1)
  have HB1 := Lib.hid hbz
  have hnlt : ¬ (q : Int) < l.first := by omega
  have hnl2 : ¬ (l.next : Int) ≤ (q : Int) := by omega
  clear hk0 hk1 hbz
  gi_wp2_with fail
  refine ⟨trivial, ?_⟩
  refine (callsIn_wide.2 (lg_next _ F g p l (H.out.pure HB1.out).lg (by omega) (by omega))).mono ?_
  rintro e w2 ⟨rfl, hb2⟩
  have HB2 := Lib.hid (HB1.out.trans (hb2.mono HB1.out.size))
  have m0 := (hb2.block _ (lt_of_block HM1.out.1)).trans HM1.out.1
  have m1 := (hb2.block _ (lt_of_block HM1.out.2)).trans HM1.out.2
  have hd2 : w.heap.size + 2 ≤ w2.heap.size := by have := lt_of_block m1; omega
  have HM2 := Lib.hid (And.intro m0 m1)
  clear hb2 m0 m1
  gi_wp2_with fail
  refine ⟨trivial, ?_⟩
  refine (callsIn_wide.2 (payloads_any g (q : Int) _)).mono ?_
  rintro e w3 ⟨rfl, rfl⟩
  gi_wp2
  obtain ⟨W0, hW0⟩ : ∃ W0, W0 = (w2.alloc (.cells #[.pointer (some ⟨g, 0, none⟩)] 30)).alloc (.cells #[.int .i64 (q : Int)] 2) := ⟨_, rfl⟩
  obtain ⟨x, hx⟩ : ∃ x, x = w.heap.size := ⟨_, rfl⟩
  obtain ⟨d, hd⟩ : ∃ d, d = w2.heap.size := ⟨_, rfl⟩
  have hsz : W0.heap.size = d + 2 := by rw [hW0, hd]; simp
  have hbel : Below w2.heap.size w2 W0 := by rw [hW0]; exact box2_belowX w2 _ _
  have kL : W0.heap[d]? = some (.cells #[.pointer (some ⟨g, 0, none⟩)] 30 (0, 0)) := by
    rw [hW0, hd]; exact (Below.heap_alloc _ _ _ (by simp)).trans (heap_alloc_new _ _)
  have kS : W0.heap[d + 1]? = some (.cells #[.int .i64 (q : Int)] 2 (0, 0)) := by
    rw [hW0, hd]; exact alloc_topX _ _ (by simp)
  have hbw : Below w.heap.size w W0 := HB2.out.trans (hbel.mono HB2.out.size)
  have henv := H.out.pure hbw
  have hxd : x + 2 ≤ d := by omega
  have hgt : PdRun w x [] W0 := by
    refine ⟨rfl, ?_, ?_, ?_⟩
    · rw [hx]; exact (hbel.block _ (lt_of_block HM2.out.1)).trans HM2.out.1
    · rw [hx]; exact (hbel.block _ (lt_of_block HM2.out.2)).trans HM2.out.2
    · rw [hx]; exact hbw
  have hfar : ∀ k, LgAll F p b k → k < x := fun k hk => by rw [hx]; exact H.out.all_lt k hk
  rw [← hW0, ← hx, ← hd]
  have HX := Lib.hid hx
  have HENV := Lib.hid henv
  have HK := Lib.hid (And.intro kL kS)
  have HGT := Lib.hid hgt
  have HFAR := Lib.hid hfar
  clear hW0 hbel kL kS hd2 hx hd hbw henv hgt hfar
  refine wpIn_range_ownB (n := 6) rfl (by omega) (gf := 115) rfl trivial (enters_of Tryz.func115 (by kernel_rfl) rfl)
    (pay_seq W0 F g p b st l HENV.out HON.out hlit (d + 1) d q h1 HK.out.2 HK.out.1 (by omega) (fun hk => by have := HFAR.out _ hk; omega) 1 (by omega))
    (fun k hk => by omega) (fun h k => PayKeep.trans h k)
    (fun W o h => ⟨by rw [World.putObj_size]; exact Nat.le_refl _, fun k hk => World.putObj_heap_other (by
      rcases hk with hk | rfl | rfl
      · have := HFAR.out k hk; omega
      · omega
      · omega)⟩) (fun _ => rfl)
    (PdRun w x) (PdStop w x) ?bears ?bears2 HGT.out (fun pre W h => by rw [h.1]; simp)
    (fun pre y a' W => PdRun w x pre W ∧ a' = { tmps := #[.pointer (some ⟨g, 0, none⟩), .int .i64 (q : Int), undef, undef, .pointer (some ⟨x, 0, none⟩), .pointer (some ⟨x + 1, 0, none⟩), .string y.p, .int .i64 y.e, .bool false, .pointer (some ⟨g, 0, none⟩), .bool false, .bool (decide ((q : Int) < l.first)), .int .i64 (q : Int), .bool true, .bool true, .int .i64 (q : Int), .pointer (some ⟨g, 0, none⟩), .int .i64 l.first, .bool (decide ((q : Int) < l.first)), .bool (decide ((q : Int) < l.first)), .bool (decide ((q : Int) < 0)), .int .i64 (q : Int), .bool (decide ((q : Int) < 0)), .bool (decide ((q : Int) < 0)), .int .i64 (q : Int), .pointer (some ⟨g, 0, none⟩), .int .i64 (l.next : Int), .bool false, .bool (decide ((q : Int) < 0)), .pointer (some ⟨g, 0, none⟩), .int .i64 (q : Int), .func (.func 115) #[] #[.pointer (some ⟨d + 1, 0, none⟩), .pointer (some ⟨d, 0, none⟩)], .string y.p, .int .i64 y.e, undef, undef], defers := [] })
    ?hA ?assign ?body ?done ?stop
  case bears => exact fun pre W1 W2 h hf => ⟨h.1, h.2.bears (hf.mono (fun i _ e => by omega))⟩
  case bears2 =>
    rintro c pre W1 W2 ⟨h1, y, h2, h3⟩ hf
    exact ⟨h1, y, h2, h3.bears (hf.mono (fun i _ e => by omega))⟩
  case hA =>
    rintro pre y a' W o hlt ⟨h1, h2⟩
    exact ⟨⟨h1.1, h1.2.bears ((Fr.refl _ W).putObj _ (fun _ => by omega) o)⟩, h2⟩
  case assign =>
    intro pre y W K hlt hI hK
    have HI := Lib.hid hI
    have HK := Lib.hid hK
    clear hI hK
    unfold rdEnc
    gi_wp2
    exact HK.out _ _ ⟨HI.out, rfl⟩ (RgIn.refl _ _) (Nat.le_refl _) ⟨Nat.le_refl _, fun _ _ => rfl⟩
  case body =>
    rintro pre y a' W hlt ⟨⟨rfl, hg⟩, rfl⟩ hlen
    have c0 : W.cell? ⟨x, 0, none⟩ = some (.string ⟨#[]⟩) := (cell_of_row _ _ _ _ _ _ hg.b0).trans rfl
    have c1 : W.cell? ⟨x + 1, 0, none⟩ = some (.int .i64 0) := (cell_of_row _ _ _ _ _ _ hg.b1).trans rfl
    have z0 : W.frozen? ⟨x, 0, none⟩ = false := frozen_of_row _ _ 0 _ _ hg.b0
    have z1 : W.frozen? ⟨x + 1, 0, none⟩ = false := frozen_of_row _ _ 0 _ _ hg.b1
    have HG := Lib.hid hg
    clear hg
    gi_wp2
    have hf : Fr (fun k => k = x ∨ k = x + 1) W ((W.setCell ⟨x, 0, none⟩ (.string y.p)).setCell ⟨x + 1, 0, none⟩ (.int .i64 y.e)) := ((Fr.refl (fun k => k = x ∨ k = x + 1) W).setCell ⟨x, 0, none⟩ (fun _ => .inl rfl) _).setCell ⟨x + 1, 0, none⟩ (fun _ => .inr rfl) _
    exact ⟨RgIn.fr hf (by omega) (by omega) (by omega), rfl, y, rfl, (Below.heap_setCell _ _ _ _ (by simp)).trans (one_setCell HG.out.b0), one_setCell ((Below.heap_setCell _ _ _ _ (by simp)).trans HG.out.b1), HG.out.below.trans (hf.below (B := x) (by omega) (fun k hk => by omega))⟩
  case done => exact fun xs W h => h.elim
  case stop =>
    rintro c pre W hsp ⟨rfl, y, rfl, hg⟩ hK
    have hy := hsp 0 (by simp)
    have HPP := Lib.hid hy
    have HKW := Lib.hid hK
    have HG := Lib.hid hg
    clear hsp hy hg hK
    gi_wp2
    refine ⟨by simp, .inl ⟨_, _, rfl, run_takeDeferred HKW.out, ?_⟩⟩
    have hf3 : Fr (fun k => k = W0.heap.size) W (W.putObj W0.heap.size (.deferred none)) := (Fr.refl (fun k => k = W0.heap.size) W).putObj W0.heap.size (fun _ => rfl) _
    have g3 := HG.out.bears (hf3.mono (T := fun k => x + 2 ≤ k) (fun i _ e => by omega))
    have r0 : (W.putObj W0.heap.size (.deferred none)).cell? ⟨x, 0, none⟩ = some (.string y.p) := (cell_of_row _ _ _ _ _ _ g3.b0).trans rfl
    have r1 : (W.putObj W0.heap.size (.deferred none)).cell? ⟨x + 1, 0, none⟩ = some (.int .i64 0) := (cell_of_row _ _ _ _ _ _ g3.b1).trans (by rw [show y.e = 0 from HPP.out.1]; rfl)
    refine ⟨.tuple #[.string y.p, .int .i64 0], by simp [results, Tryz.results15, go_sem, r0, r1], ⟨y.p, HPP.out.2, rfl⟩, ?_⟩
    rw [← HX.out]; exact g3.below
end Go.Proofs.YtcdjckdbcffgdaaGreatDoor

/- The walk of seglog.Range. -/
namespace Go.Proofs.YtcdjckdbcffgdaaGreatDoor
open Go.RowKit Go.Shelf
attribute [local go_sem] Oper.semAt_some

/-- The state of Range's loop: the boxes of its bounds, of its results, and of the row. -/
structure RnAt (w W : World) (x o : Nat) (q r : Int) (pre : List RdX) : Prop where
  a0 : W.heap[x]? = some (.cells #[.int .i64 q] 2 (0, 0))
  a1 : W.heap[x + 1]? = some (.cells #[.int .i64 r] 2 (0, 0))
  a2 : W.heap[x + 1 + 1]? = some (.cells #[.slice none 0 0] 24 (0, 0))
  a3 : W.heap[x + 1 + 1 + 1]? = some (.cells #[.int .i64 0] 27 (0, 0))
  box : ∃ v, W.heap[o]? = some (.cells #[v] 24 (0, 0)) ∧ W.ownsRow (o + 5) 9 1 v pre.length (pre.map fun y => .string y.p)
  below : Below x w W
theorem RnAt.bears {w W W' : World} {x o : Nat} {q r : Int} {pre : List RdX} (hx : x + 4 ≤ o) (h : RnAt w W x o q r pre) (hf : Fr (fun k => o + 1 ≤ k ∧ k < o + 5) W W') : RnAt w W' x o q r pre := by
  obtain ⟨v, h1, h2⟩ := h.box
  exact ⟨hf.heapAt h.a0 (by omega), hf.heapAt h.a1 (by omega), hf.heapAt h.a2 (by omega), hf.heapAt h.a3 (by omega), ⟨v, hf.heapAt h1 (by omega), hf.ownsRow h2 (fun k e => by have := own_geX h2 e; omega)⟩,
    h.below.trans (hf.below (B := x) (by have := lt_of_block h.a0; omega) (fun k hk => by omega))⟩
theorem range_texts {l : LgSt} {q0 : Nat} {pre : List RdX} (h : PayOk l q0 pre) {n : Nat} (hn : pre.length = n) {k : Nat} (hk : k = q0 - l.first.toNat) (hl : k + n ≤ l.all.length) :
    ((l.all.drop k).take n).map encStr = pre.map (fun y => Value.string y.p) ∧ ((l.all.drop k).take n).length = pre.length := by
  have hlen : ((l.all.drop k).take n).length = pre.length := by rw [List.length_take, List.length_drop]; omega
  refine ⟨List.ext_getElem (by simpa using hlen) fun i h1 h2 => ?_, hlen⟩
  have hi : i < pre.length := by simpa using h2
  rw [List.getElem_map, List.getElem_map, List.getElem_take, List.getElem_drop]
  have e := (h i hi).2
  rw [← hk] at e
  unfold LgSt.at at e
  rw [List.getElem?_eq_getElem (by omega)] at e
  exact (enc_of e).symm
def RnRun (w : World) (x o n : Nat) (q r : Int) (pre : List RdX) (W : World) : Prop := RnAt w W x o q r pre ∧ pre.length < n
def RnStop (w : World) (x o n : Nat) (q r : Int) (c : Code) (pre : List RdX) (W : World) : Prop := (c = .exit 1 ∧ pre.length = n ∧ RnAt w W x o q r pre) ∨ ∃ y ∈ pre, y.e ≠ 0

set_option maxRecDepth 100000 in
set_option maxHeartbeats 4000000 in
theorem lg_range_ok (w : World) (F : Nat → Prop) (g p b : Nat) (st : DkSt) (l : LgSt) (h : LgEnv w F g p b st l) (hon : LgOn st l) (hlit : st.dark = false) (q r : Nat) (h1 : l.first ≤ (q : Int)) (h2 : q < r) (h3 : r ≤ l.next) :
    Calls Tryz.prog 23 #[.pointer (some ⟨g, 0, none⟩), .int .i64 (q : Int), .int .i64 (r : Int)] w fun e w' => (∃ v, e = .returned (.tuple #[v, .int .i64 0]) ∧ OwnTexts w' w.heap.size v ((l.all.drop (q - l.first.toNat)).take (r - q))) ∧ Below w.heap.size w w' := by
  have H := Lib.hid h
  have HON := Lib.hid hon
  have htop := h.ok.top
  have hfew := h.ok.few
  have hlen := h.ok.len
  have hpos := h.ok.pos
  clear h hon
  refine (callsIn_wide (n := 6)).1 ?_
  refine callsIn_of_wp_marks Tryz.func23 rfl trivial ?_ rfl
  simp only [Tryz.ntmps23, List.size_toArray, List.length_cons, List.length_nil, Nat.reduceAdd, Nat.reduceSub, Array.replicate_succ, Array.replicate_zero, List.push_toArray, List.append_toArray, List.nil_append, List.cons_append]
  obtain ⟨w1, hw1⟩ : ∃ w1, w1 = (((w.alloc (.cells #[.int .i64 (q : Int)] 2)).alloc (.cells #[.int .i64 (r : Int)] 2)).alloc (.cells #[.slice none 0 0] 24)).alloc (.cells #[.int .i64 0] 27) := ⟨_, rfl⟩
  obtain ⟨x, hx⟩ : ∃ x, x = w.heap.size := ⟨_, rfl⟩
  have hsz : w1.heap.size = x + 4 := by rw [hw1, hx]; simp
  have hbz : Below w.heap.size w w1 := by rw [hw1]; exact ((((Below.refl _ _).alloc (Nat.le_refl _) _).alloc (by simp) _).alloc (by simp; omega) _).alloc (by simp; omega) _
  have k0 : w1.heap[x]? = some (.cells #[.int .i64 (q : Int)] 2 (0, 0)) := by
    rw [hw1, hx]; exact (Below.heap_alloc _ _ _ (by simp; omega)).trans ((Below.heap_alloc _ _ _ (by simp; omega)).trans ((Below.heap_alloc _ _ _ (by simp)).trans (heap_alloc_new _ _)))
  have k1 : w1.heap[x + 1]? = some (.cells #[.int .i64 (r : Int)] 2 (0, 0)) := by
    rw [hw1, hx]; exact (Below.heap_alloc _ _ _ (by simp)).trans ((Below.heap_alloc _ _ _ (by simp)).trans (alloc_topX _ _ (by simp)))
  have k2 : w1.heap[x + 1 + 1]? = some (.cells #[.slice none 0 0] 24 (0, 0)) := by
    rw [hw1, hx]; exact (Below.heap_alloc _ _ _ (by simp)).trans (alloc_topX _ _ (by simp))
  have k3 : w1.heap[x + 1 + 1 + 1]? = some (.cells #[.int .i64 0] 27 (0, 0)) := by
    rw [hw1, hx]; exact alloc_topX _ _ (by simp)
  have c0 : w1.cell? ⟨x, 0, none⟩ = some (.int .i64 (q : Int)) := (cell_of_row _ _ _ _ _ _ k0).trans rfl
  have c1 : w1.cell? ⟨x + 1, 0, none⟩ = some (.int .i64 (r : Int)) := (cell_of_row _ _ _ _ _ _ k1).trans rfl
  have HK := Lib.hid (And.intro k0 (And.intro k1 (And.intro k2 k3)))
  have HB := Lib.hid hbz
  have HX := Lib.hid hx
  clear k0 k1 k2 k3 hbz
  have d0 : decide ((q : Int) < 0) = false := by simp
  have d1 : decide (r < q) = false := by simp; omega
  gi_wp2_with fail
  rw [← hw1, ← hx]
  clear hw1 hx
  refine wpIn_wide.2 ?_
  have hnf : decide ((q : Int) < l.first) = false := by simp; omega
  go_region_held3 (fun w' => w'.cell? ⟨x, 0, none⟩ = some (.int .i64 (q : Int))) (first | exact c0 | go_keep) (first
      | (go_at_call 11; refine (lg_first _ F g p l (H.out.pure (by first | exact HB.out | exact HB.out.drew)).lg (by omega)).mono ?_; rintro e w2 ⟨rfl, rfl⟩))
  have hnn : decide ((l.next : Int) < (r : Int)) = false := by simp; omega
  have hn9 : decide (l.next < r) = false := by simp; omega
  gi_wp2_with fail
  refine wpIn_wide.2 ?_
  have c0d : w1.drew.cell? ⟨x, 0, none⟩ = some (.int .i64 (q : Int)) := c0
  have c1d : w1.drew.cell? ⟨x + 1, 0, none⟩ = some (.int .i64 (r : Int)) := c1
  go_region_held3 (fun w' => w'.cell? ⟨x + 1, 0, none⟩ = some (.int .i64 (r : Int))) (first | exact c1d | exact x1 | go_keep) (first
      | (go_at_call 12; refine (lg_next _ F g p l (H.out.pure (by first | exact HB.out.drew | exact HB.out.drew.drew)).lg (by omega) (by omega)).mono ?_; rintro e w2 ⟨rfl, hb2⟩; have HB2 := Lib.hid ((show Below w1.heap.size w1 _ by first | exact (Below.refl _ _).drew | exact (Below.refl _ _).drew.drew).trans hb2); have x1 := (HB2.out.cell (p := ⟨x + 1, 0, none⟩) (by have := ltOfCell c1; omega)).trans c1; clear hb2))
  have x0 := (HB2.out.cell (p := ⟨x, 0, none⟩) (by have := ltOfCell c0; omega)).trans c0
  have hx2 : x < w2.heap.size := ltOfCell x0
  have x0a : ∀ o, (w2.alloc o).cell? ⟨x, 0, none⟩ = some (.int .i64 (q : Int)) := fun o => by rw [World.cell?_alloc_past _ _ _ hx2]; exact x0
  have hqr : decide ((q : Int) = (r : Int)) = false := by simp; omega
  have hqr2 : ((q : Int) == (r : Int)) = false := by rw [beq_eq_false_iff_ne]; omega
  gi_wp2_with fail
  have hs2 : x + 4 ≤ w2.heap.size := by have := HB2.out.size; omega
  have HK2 := Lib.hid (show w2.heap[x]? = _ ∧ w2.heap[x + 1]? = _ ∧ w2.heap[x + 1 + 1]? = _ ∧ w2.heap[x + 1 + 1 + 1]? = _ from ⟨(HB2.out.block _ (lt_of_block HK.out.1)).trans HK.out.1, (HB2.out.block _ (lt_of_block HK.out.2.1)).trans HK.out.2.1, (HB2.out.block _ (lt_of_block HK.out.2.2.1)).trans HK.out.2.2.1, (HB2.out.block _ (lt_of_block HK.out.2.2.2)).trans HK.out.2.2.2⟩)
  refine ⟨trivial, ?_⟩
  refine (callsIn_wide.2 (payloads_any g (q : Int) _)).mono ?_
  rintro e w3 ⟨rfl, rfl⟩
  gi_wp2
  obtain ⟨W0, hW0⟩ : ∃ W0, W0 = ((w2.alloc (.cells #[.slice none 0 0] 24)).alloc (.cells #[.pointer (some ⟨g, 0, none⟩)] 30)).alloc (.cells #[.int .i64 (q : Int)] 2) := ⟨_, rfl⟩
  obtain ⟨o, ho⟩ : ∃ o, o = w2.heap.size := ⟨_, rfl⟩
  have hsz0 : W0.heap.size = o + 3 := by rw [hW0, ho]; simp
  have hbel : Below w2.heap.size w2 W0 := by rw [hW0]; exact (((Below.refl _ _).alloc (Nat.le_refl _) _).alloc (by simp) _).alloc (by simp; omega) _
  have kO : W0.heap[o]? = some (.cells #[.slice none 0 0] 24 (0, 0)) := by
    rw [hW0, ho]; exact (Below.heap_alloc _ _ _ (by simp; omega)).trans ((Below.heap_alloc _ _ _ (by simp)).trans (heap_alloc_new _ _))
  have kL : W0.heap[o + 1]? = some (.cells #[.pointer (some ⟨g, 0, none⟩)] 30 (0, 0)) := by
    rw [hW0, ho]; exact (Below.heap_alloc _ _ _ (by simp)).trans (alloc_topX _ _ (by simp))
  have kS : W0.heap[o + 1 + 1]? = some (.cells #[.int .i64 (q : Int)] 2 (0, 0)) := by
    rw [hW0, ho]; exact alloc_topX _ _ (by simp)
  have hbw2 : Below w.heap.size w w2 := HB.out.trans (HB2.out.mono HB.out.size)
  have hbw : Below w.heap.size w W0 := hbw2.trans (hbel.mono hbw2.size)
  have henv := H.out.pure hbw
  have hfar : ∀ k, LgAll F p b k → k < x := fun k hk => by rw [HX.out]; exact H.out.all_lt k hk
  have hgt : RnRun w x o (r - q) (q : Int) (r : Int) [] W0 := by
    refine ⟨⟨(hbel.block _ (by omega)).trans HK2.out.1, (hbel.block _ (by omega)).trans HK2.out.2.1, (hbel.block _ (by omega)).trans HK2.out.2.2.1, (hbel.block _ (by omega)).trans HK2.out.2.2.2, ⟨_, kO, World.ownsRow_nil _ _ _ _⟩, by rw [HX.out]; exact hbw⟩, by simp; omega⟩
  rw [← hW0, ← ho]
  have hox : x + 4 ≤ o := by omega
  have HENV := Lib.hid henv
  have HKS := Lib.hid (And.intro kL kS)
  have HGT := Lib.hid hgt
  have HFAR := Lib.hid hfar
  clear hW0 hbel kO kL kS hbw2 hbw henv hgt hfar x0 x1 x0a hx2 ho c0 c1 c0d c1d hs2 hsz
  obtain ⟨i0, hi, hz0, hz1, hz2⟩ := info_parts Tryz.infoStr
  have HI := Lib.hid hi
  have HZ0 := Lib.hid hz0
  have HZ1 := Lib.hid hz1
  have HZ2 := Lib.hid hz2
  clear hi hz0 hz1 hz2
  refine wpIn_range_ownB (n := 6) rfl (by omega) (gf := 115) rfl trivial (enters_of Tryz.func115 (by kernel_rfl) rfl)
    (pay_seq W0 F g p b st l HENV.out HON.out hlit (o + 1 + 1) (o + 1) q h1 HKS.out.2 HKS.out.1 (by omega) (fun hk => by have := HFAR.out _ hk; omega) (r - q) (by omega))
    (fun k hk => by omega) (fun h k => PayKeep.trans h k)
    (fun W ob h => ⟨by rw [World.putObj_size]; exact Nat.le_refl _, fun k hk => World.putObj_heap_other (by
      rcases hk with hk | rfl | rfl
      · have := HFAR.out k hk; omega
      · omega
      · omega)⟩) (fun _ => rfl)
    (RnRun w x o (r - q) (q : Int) (r : Int)) (RnStop w x o (r - q) (q : Int) (r : Int)) ?bears ?bears2 HGT.out (fun pre W h => h.2)
    (fun pre y a' W => RnRun w x o (r - q) (q : Int) (r : Int) pre W ∧ a' = { tmps := #[.pointer (some ⟨g, 0, none⟩), .int .i64 (q : Int), .int .i64 (r : Int), undef, .pointer (some ⟨x, 0, none⟩), .pointer (some ⟨x + 1, 0, none⟩), .pointer (some ⟨x + 1 + 1, 0, none⟩), .pointer (some ⟨x + 1 + 1 + 1, 0, none⟩), .pointer (some ⟨o, 0, none⟩), .string y.p, .int .i64 y.e, .bool false, .pointer (some ⟨g, 0, none⟩), .bool false, .bool false, .int .i64 (q : Int), .bool false, .bool false, .int .i64 (q : Int), .int .i64 (r : Int), .bool false, .bool false, .bool false, .int .i64 (q : Int), .pointer (some ⟨g, 0, none⟩), .int .i64 l.first, .bool false, .bool false, .int .i64 (r : Int), .pointer (some ⟨g, 0, none⟩), .int .i64 (l.next : Int), .bool false, .bool false, .int .i64 (q : Int), .int .i64 (r : Int), .bool false, .pointer (some ⟨g, 0, none⟩), .int .i64 (q : Int), .func (.func 115) #[] #[.pointer (some ⟨o + 1 + 1, 0, none⟩), .pointer (some ⟨o + 1, 0, none⟩)], .string y.p, .int .i64 y.e, undef, undef, undef, undef, undef, undef, undef, undef, undef, undef, undef, undef, undef, undef], defers := [] })
    ?hA ?assign ?body ?done ?stop
  case bears => exact fun pre W1 W2 h hf => ⟨h.1.bears hox (hf.mono (fun i _ e => by omega)), h.2⟩
  case bears2 =>
    rintro c pre W1 W2 h hf
    exact h.imp (fun h => ⟨h.1, h.2.1, h.2.2.bears hox (hf.mono (fun i _ e => by omega))⟩) id
  case hA =>
    rintro pre y a' W ob hlt ⟨h1, h2⟩
    exact ⟨⟨h1.1.bears hox ((Fr.refl _ W).putObj _ (fun _ => by omega) ob), h1.2⟩, h2⟩
  case assign =>
    intro pre y W K hlt hI hK
    have HI := Lib.hid hI
    have HK := Lib.hid hK
    clear hI hK
    unfold rdEnc
    gi_wp2
    exact HK.out _ _ ⟨HI.out, rfl⟩ (RgIn.refl _ _) (Nat.le_refl _) ⟨Nat.le_refl _, fun _ _ => rfl⟩
  case body =>
    rintro pre y a' W hlt ⟨⟨hg, hpn⟩, rfl⟩ hlen
    have c0 : W.cell? ⟨x, 0, none⟩ = some (.int .i64 (q : Int)) := (cell_of_row _ _ _ _ _ _ hg.a0).trans rfl
    have c1 : W.cell? ⟨x + 1, 0, none⟩ = some (.int .i64 (r : Int)) := (cell_of_row _ _ _ _ _ _ hg.a1).trans rfl
    have c2 : W.cell? ⟨x + 1 + 1, 0, none⟩ = some (.slice none 0 0) := (cell_of_row _ _ _ _ _ _ hg.a2).trans rfl
    have c3 : W.cell? ⟨x + 1 + 1 + 1, 0, none⟩ = some (.int .i64 0) := (cell_of_row _ _ _ _ _ _ hg.a3).trans rfl
    have z2 : W.frozen? ⟨x + 1 + 1, 0, none⟩ = false := frozen_of_row _ _ 0 _ _ hg.a2
    have z3 : W.frozen? ⟨x + 1 + 1 + 1, 0, none⟩ = false := frozen_of_row _ _ 0 _ _ hg.a3
    obtain ⟨v, hv, hrow⟩ := hg.box
    have cO : W.cell? ⟨o, 0, none⟩ = some v := (cell_of_row _ _ _ _ _ _ hv).trans rfl
    have zO : W.frozen? ⟨o, 0, none⟩ = false := frozen_of_row _ _ 0 _ _ hv
    have HG := Lib.hid hg
    have HR := Lib.hid hrow
    have HV := Lib.hid hv
    have HRNE := Lib.hid (show ∀ k, k < o + 5 → some k ≠ v.ownBlock from fun k hk e => by have := own_geX HR.out e.symm; omega)
    clear hg hv hrow
    obtain ⟨yp, ye⟩ := y
    by_cases hy0 : ye = 0
    · subst hy0
      by_cases hL : pre.length + 1 = r - q
      · have hE : ((pre.length : Int) + 1) = (r : Int) - (q : Int) := by omega
        have hE2 : (((pre.length : Int) + 1) == (r : Int) - (q : Int)) = true := by rw [beq_iff_eq]; omega
        have HL := Lib.hid hL
        clear hL
        gi_wp2_with (gi_at_builtin; refine wpListIn_append_own _ rfl _ _ 24 rfl (o + 5) 9 i0 _ 1 16 Tryz.underlying24 HI.out HZ0.out HZ1.out HZ2.out rfl (by decide) _ _ _ rfl (HR.out.alloc _) ⟨W.heap.size, 0, none⟩ 1 1 [.string yp] rfl rfl ?_ ?_ ?_ ?_ ?_ ?_; exact cells_new rfl rfl; simp [Value.oneCell']; (unfold maxLen; omega); omega; (rw [World.size_alloc]; omega); intro v' w1 hown' hgrow0 _; have hgrow : (W.alloc (.cells #[.string yp] 9)).grownBy w1 v.ownBlock := hgrow0; clear hgrow0; obtain ⟨g', cap', rfl⟩ := ownsRow_succ hown'; have hkeep : ∀ k, k < o + 5 → w1.heap[k]? = W.heap[k]? := fun k hk => (hgrow.block k (by rw [World.size_alloc]; omega) (HRNE.out k hk)).trans (Below.heap_alloc _ _ _ (by omega)); have c0 : w1.cell? ⟨x, 0, none⟩ = some (.int .i64 (q : Int)) := (cell_of_row _ _ _ _ _ _ ((hkeep x (by omega)).trans HG.out.a0)).trans rfl; have c1 : w1.cell? ⟨x + 1, 0, none⟩ = some (.int .i64 (r : Int)) := (cell_of_row _ _ _ _ _ _ ((hkeep (x + 1) (by omega)).trans HG.out.a1)).trans rfl; have hvO := (hkeep o (by omega)).trans HV.out; have cO : w1.cell? ⟨o, 0, none⟩ = some v := (cell_of_row _ _ _ _ _ _ hvO).trans rfl; have zO := frozen_of_row _ _ 0 _ _ hvO; have HVO := Lib.hid hvO; have HKP := Lib.hid hkeep; have HO := Lib.hid hown'; have HGR := Lib.hid hgrow; clear hown' hgrow hkeep hvO)
        have hgb : o + 5 ≤ g' := own_geX HO.out rfl
        have hf1 : Fr (fun k => v.ownBlock = some k) W w1 := ((Fr.refl (fun k => v.ownBlock = some k) W).alloc _).grown HGR.out (fun k _ e => e)
        have hf : Fr (fun k => k = o ∨ v.ownBlock = some k) W (w1.setCell ⟨o, 0, none⟩ (.slice (some ⟨g', 0, none⟩) (pre.length + 1) cap')) := (hf1.mono (fun i _ e => .inr e)).setCell ⟨o, 0, none⟩ (fun _ => .inl rfl) _
        have hno : ∀ k, k < o + 5 → k ≠ o → ¬ (k = o ∨ v.ownBlock = some k) := fun k h1 h2 e => by
          rcases e with e | e
          · exact h2 e
          · exact HRNE.out k h1 e.symm
        have hat : RnAt w (w1.setCell ⟨o, 0, none⟩ (.slice (some ⟨g', 0, none⟩) (pre.length + 1) cap')) x o (q : Int) (r : Int) (pre ++ [⟨yp, 0⟩]) := by
          refine ⟨hf.heapAt HG.out.a0 (hno _ (by omega) (by omega)), hf.heapAt HG.out.a1 (hno _ (by omega) (by omega)), hf.heapAt HG.out.a2 (hno _ (by omega) (by omega)), hf.heapAt HG.out.a3 (hno _ (by omega) (by omega)), ⟨_, one_setCell HVO.out, ?_⟩, HG.out.below.trans (hf.below (B := x) (by omega) (fun k hk e => hno k (by omega) (by omega) e))⟩
          rw [List.map_append, List.length_append, List.length_singleton]
          exact ownsRow_setCell_other HO.out (by simp [Value.ownBlock]; omega) _
        exact ⟨RgIn.fr hf hlt (hno _ (by omega) (by omega)) (hno _ (by omega) (by omega)), .inl ⟨rfl, by rw [List.length_append, List.length_singleton]; exact HL.out, hat⟩⟩
      · have hE : ¬ ((pre.length : Int) + 1) = (r : Int) - (q : Int) := by omega
        have hE2 : (((pre.length : Int) + 1) == (r : Int) - (q : Int)) = false := by rw [beq_eq_false_iff_ne]; omega
        gi_wp2_with (gi_at_builtin; refine wpListIn_append_own _ rfl _ _ 24 rfl (o + 5) 9 i0 _ 1 16 Tryz.underlying24 HI.out HZ0.out HZ1.out HZ2.out rfl (by decide) _ _ _ rfl (HR.out.alloc _) ⟨W.heap.size, 0, none⟩ 1 1 [.string yp] rfl rfl ?_ ?_ ?_ ?_ ?_ ?_; exact cells_new rfl rfl; simp [Value.oneCell']; (unfold maxLen; omega); omega; (rw [World.size_alloc]; omega); intro v' w1 hown' hgrow0 _; have hgrow : (W.alloc (.cells #[.string yp] 9)).grownBy w1 v.ownBlock := hgrow0; clear hgrow0; obtain ⟨g', cap', rfl⟩ := ownsRow_succ hown'; have hkeep : ∀ k, k < o + 5 → w1.heap[k]? = W.heap[k]? := fun k hk => (hgrow.block k (by rw [World.size_alloc]; omega) (HRNE.out k hk)).trans (Below.heap_alloc _ _ _ (by omega)); have c0 : w1.cell? ⟨x, 0, none⟩ = some (.int .i64 (q : Int)) := (cell_of_row _ _ _ _ _ _ ((hkeep x (by omega)).trans HG.out.a0)).trans rfl; have c1 : w1.cell? ⟨x + 1, 0, none⟩ = some (.int .i64 (r : Int)) := (cell_of_row _ _ _ _ _ _ ((hkeep (x + 1) (by omega)).trans HG.out.a1)).trans rfl; have hvO := (hkeep o (by omega)).trans HV.out; have cO : w1.cell? ⟨o, 0, none⟩ = some v := (cell_of_row _ _ _ _ _ _ hvO).trans rfl; have zO := frozen_of_row _ _ 0 _ _ hvO; have HVO := Lib.hid hvO; have HKP := Lib.hid hkeep; have HO := Lib.hid hown'; have HGR := Lib.hid hgrow; clear hown' hgrow hkeep hvO)
        have hgb : o + 5 ≤ g' := own_geX HO.out rfl
        have hf1 : Fr (fun k => v.ownBlock = some k) W w1 := ((Fr.refl (fun k => v.ownBlock = some k) W).alloc _).grown HGR.out (fun k _ e => e)
        have hf : Fr (fun k => k = o ∨ v.ownBlock = some k) W (w1.setCell ⟨o, 0, none⟩ (.slice (some ⟨g', 0, none⟩) (pre.length + 1) cap')) := (hf1.mono (fun i _ e => .inr e)).setCell ⟨o, 0, none⟩ (fun _ => .inl rfl) _
        have hno : ∀ k, k < o + 5 → k ≠ o → ¬ (k = o ∨ v.ownBlock = some k) := fun k h1 h2 e => by
          rcases e with e | e
          · exact h2 e
          · exact HRNE.out k h1 e.symm
        have hat : RnAt w (w1.setCell ⟨o, 0, none⟩ (.slice (some ⟨g', 0, none⟩) (pre.length + 1) cap')) x o (q : Int) (r : Int) (pre ++ [⟨yp, 0⟩]) := by
          refine ⟨hf.heapAt HG.out.a0 (hno _ (by omega) (by omega)), hf.heapAt HG.out.a1 (hno _ (by omega) (by omega)), hf.heapAt HG.out.a2 (hno _ (by omega) (by omega)), hf.heapAt HG.out.a3 (hno _ (by omega) (by omega)), ⟨_, one_setCell HVO.out, ?_⟩, HG.out.below.trans (hf.below (B := x) (by omega) (fun k hk e => hno k (by omega) (by omega) e))⟩
          rw [List.map_append, List.length_append, List.length_singleton]
          exact ownsRow_setCell_other HO.out (by simp [Value.ownBlock]; omega) _
        exact ⟨RgIn.fr hf hlt (hno _ (by omega) (by omega)) (hno _ (by omega) (by omega)), ⟨hf.size, fun k hk => hf.block _ (by rcases hk with hk | rfl | rfl; have := HFAR.out k hk; omega; omega; omega) (by rcases hk with hk | rfl | rfl; exact hno _ (by have := HFAR.out k hk; omega) (by have := HFAR.out k hk; omega); exact hno _ (by omega) (by omega); exact hno _ (by omega) (by omega))⟩, hat, by rw [List.length_append, List.length_singleton]; omega⟩
    · have hye : (ye == 0) = false := by simpa using hy0
      have hyn : (ye != 0) = true := by simpa using hy0
      have HY0 := Lib.hid hy0
      clear hy0
      gi_wp2
      have hf : Fr (fun k => k = x + 1 + 1 ∨ k = x + 1 + 1 + 1) W ((W.setCell ⟨x + 1 + 1, 0, none⟩ (.slice none 0 0)).setCell ⟨x + 1 + 1 + 1, 0, none⟩ (.int .i64 ye)) := ((Fr.refl (fun k => k = x + 1 + 1 ∨ k = x + 1 + 1 + 1) W).setCell ⟨x + 1 + 1, 0, none⟩ (fun _ => .inl rfl) _).setCell ⟨x + 1 + 1 + 1, 0, none⟩ (fun _ => .inr rfl) _
      exact ⟨RgIn.fr hf hlt (by omega) (by omega), .inr ⟨⟨yp, ye⟩, by simp, HY0.out⟩⟩
  case done => exact fun xs W h => h.elim
  case stop =>
    rintro c pre W hsp hst hK
    rcases hst with ⟨rfl, hlen, hg⟩ | ⟨y, hy, hne⟩
    rotate_left
    · obtain ⟨i, hi, rfl⟩ := List.getElem_of_mem hy
      exact absurd (hsp i hi).1 hne
    obtain ⟨v, hv, hrow⟩ := hg.box
    obtain ⟨a0, n0, k0, rfl⟩ := own_shape hrow
    have cO : W.cell? ⟨o, 0, none⟩ = some (.slice a0 n0 k0) := (cell_of_row _ _ _ _ _ _ hv).trans rfl
    have c2 : W.cell? ⟨x + 1 + 1, 0, none⟩ = some (.slice none 0 0) := (cell_of_row _ _ _ _ _ _ hg.a2).trans rfl
    have c3 : W.cell? ⟨x + 1 + 1 + 1, 0, none⟩ = some (.int .i64 0) := (cell_of_row _ _ _ _ _ _ hg.a3).trans rfl
    have z2 : W.frozen? ⟨x + 1 + 1, 0, none⟩ = false := frozen_of_row _ _ 0 _ _ hg.a2
    have z3 : W.frozen? ⟨x + 1 + 1 + 1, 0, none⟩ = false := frozen_of_row _ _ 0 _ _ hg.a3
    have HSP := Lib.hid hsp
    have HKW := Lib.hid hK
    have HG := Lib.hid hg
    have HR := Lib.hid hrow
    have HLN := Lib.hid hlen
    clear hsp hK hg hrow hv hlen
    gi_wp2
    obtain ⟨W2, hW2⟩ : ∃ W2, W2 = (W.setCell ⟨x + 1 + 1, 0, none⟩ (.slice a0 n0 k0)).setCell ⟨x + 1 + 1 + 1, 0, none⟩ (.int .i64 0) := ⟨_, rfl⟩
    have hf : Fr (fun k => k = x + 1 + 1 ∨ k = x + 1 + 1 + 1) W W2 := by rw [hW2]; exact ((Fr.refl (fun k => k = x + 1 + 1 ∨ k = x + 1 + 1 + 1) W).setCell ⟨x + 1 + 1, 0, none⟩ (fun _ => .inl rfl) _).setCell ⟨x + 1 + 1 + 1, 0, none⟩ (fun _ => .inr rfl) _
    have hK2 : W2.heap[W0.heap.size]? = some (.deferred (some [])) := hf.heapAt HKW.out (by omega)
    have h2 : W2.heap[x + 1 + 1]? = some (.cells #[.slice a0 n0 k0] 24 (0, 0)) := by rw [hW2]; exact (Below.heap_setCell _ _ _ _ (by simp)).trans (one_setCell HG.out.a2)
    have h3 : W2.heap[x + 1 + 1 + 1]? = some (.cells #[.int .i64 0] 27 (0, 0)) := by rw [hW2]; exact one_setCell ((Below.heap_setCell _ _ _ _ (by simp)).trans HG.out.a3)
    rw [← hW2]
    refine ⟨by simp, .inl ⟨_, _, rfl, run_takeDeferred hK2, ?_⟩⟩
    have hf3 : Fr (fun k => k = x + 1 + 1 ∨ k = x + 1 + 1 + 1 ∨ k = W0.heap.size) W (W2.putObj W0.heap.size (.deferred none)) := (hf.mono (fun i _ e => by omega)).putObj _ (fun _ => .inr (.inr rfl)) _
    have r0 : (W2.putObj W0.heap.size (.deferred none)).cell? ⟨x + 1 + 1, 0, none⟩ = some (.slice a0 n0 k0) := (cell_of_row _ _ _ _ _ _ ((World.putObj_heap_other (by omega)).trans h2)).trans rfl
    have r1 : (W2.putObj W0.heap.size (.deferred none)).cell? ⟨x + 1 + 1 + 1, 0, none⟩ = some (.int .i64 0) := (cell_of_row _ _ _ _ _ _ ((World.putObj_heap_other (by omega)).trans h3)).trans rfl
    refine ⟨.tuple #[.slice a0 n0 k0, .int .i64 0], by simp [results, Tryz.results23, go_sem, r0, r1], ⟨_, rfl, ?_⟩, ?_⟩
    · have hrow := ownsRow_base (hf3.ownsRow HR.out (fun k e => by have := own_geX HR.out e; omega)) (base' := w.heap.size) (fun k e => by have := own_geX HR.out e; have := HX.out; omega)
      have hnx := next_eq H.out.ok (by omega)
      have hfe := first_eq H.out.ok (by omega)
      have e := range_texts HSP.out (n := r - q) HLN.out (k := q - l.first.toNat) rfl (by omega)
      unfold OwnTexts
      rw [e.1, e.2]
      exact hrow
    · rw [← HX.out]; exact HG.out.below.trans (hf3.below (B := x) (by have := lt_of_block HG.out.a0; omega) (fun k hk e => by omega))
end Go.Proofs.YtcdjckdbcffgdaaGreatDoor

/- seglog.Read and Range of what is not there, and of nil; Append, Sync, First, Next, Init, Open of nil. -/
namespace Go.Proofs.YtcdjckdbcffgdaaGreatDoor
open Go.RowKit Go.Shelf
attribute [local go_sem] Oper.semAt_some

set_option maxRecDepth 100000 in
set_option maxHeartbeats 4000000 in
theorem lg_read_no (w : World) (F : Nat → Prop) (g p b : Nat) (st : DkSt) (l : LgSt) (h : LgEnv w F g p b st l) (q c : Int) (hq : (0 ≤ q ∧ q < l.first ∧ c = 52) ∨ (q < 0 ∧ c = 5) ∨ (0 ≤ q ∧ ¬ q < l.first ∧ (l.next : Int) ≤ q ∧ c = 5)) :
    Calls Tryz.prog 15 #[.pointer (some ⟨g, 0, none⟩), .int .i64 q] w fun e w' => e = .returned (.tuple #[.string ⟨#[]⟩, .int .i64 c]) ∧ Below w.heap.size w w' := by
  have H := Lib.hid h
  have hfew := h.ok.few
  have hlen := h.ok.len
  have hpos := h.ok.pos
  clear h
  refine (callsIn_wide (n := 6)).1 ?_
  refine callsIn_of_wp_marks Tryz.func15 rfl trivial ?_ rfl
  simp only [Tryz.ntmps15, List.size_toArray, List.length_cons, List.length_nil, Nat.reduceAdd, Nat.reduceSub, Array.replicate_succ, Array.replicate_zero, List.push_toArray, List.append_toArray, List.nil_append, List.cons_append]
  have hbz := box2_belowX w (.cells #[.string ⟨#[]⟩] 9) (.cells #[.int .i64 0] 27)
  have hk0 : ((w.alloc (.cells #[.string ⟨#[]⟩] 9)).alloc (.cells #[.int .i64 0] 27)).heap[w.heap.size]? = some (.cells #[.string ⟨#[]⟩] 9 (0, 0)) := (Below.heap_alloc _ _ _ (by simp)).trans (heap_alloc_new _ _)
  have hk1 : ((w.alloc (.cells #[.string ⟨#[]⟩] 9)).alloc (.cells #[.int .i64 0] 27)).heap[w.heap.size + 1]? = some (.cells #[.int .i64 0] 27 (0, 0)) := alloc_topX _ _ (by simp)
  have fin : ∀ W : World, Below w.heap.size w W → W.heap[w.heap.size]? = some (.cells #[.string ⟨#[]⟩] 9 (0, 0)) → W.heap[w.heap.size + 1]? = some (.cells #[.int .i64 0] 27 (0, 0)) →
      ((W.setCell ⟨w.heap.size, 0, none⟩ (.string ⟨#[]⟩)).setCell ⟨w.heap.size + 1, 0, none⟩ (.int .i64 c)).cell? ⟨w.heap.size, 0, none⟩ = some (.string ⟨#[]⟩) ∧ ((W.setCell ⟨w.heap.size, 0, none⟩ (.string ⟨#[]⟩)).setCell ⟨w.heap.size + 1, 0, none⟩ (.int .i64 c)).cell? ⟨w.heap.size + 1, 0, none⟩ = some (.int .i64 c) ∧ Below w.heap.size w ((W.setCell ⟨w.heap.size, 0, none⟩ (.string ⟨#[]⟩)).setCell ⟨w.heap.size + 1, 0, none⟩ (.int .i64 c)) := fun W hb h0 h1 =>
    ⟨(cell_of_row _ _ _ _ _ _ ((Below.heap_setCell _ _ _ _ (by simp)).trans (one_setCell h0))).trans rfl, (cell_of_row _ _ _ _ _ _ (one_setCell ((Below.heap_setCell _ _ _ _ (by simp)).trans h1))).trans rfl, (hb.setCell (Nat.le_refl _) _).setCell (by simp) _⟩
  have HFIN := Lib.hid fin
  have HM := Lib.hid (And.intro hk0 hk1)
  have HB := Lib.hid hbz
  clear hk0 hk1 hbz fin
  rcases hq with ⟨q0, q1, rfl⟩ | ⟨q0, rfl⟩ | ⟨q0, q1, q2, rfl⟩
  · have d0 : decide ((0 : Int) ≤ q) = true := by simp; omega
    have d1 : decide (q < l.first) = true := by simp; omega
    gi_wp2_with fail
    refine ⟨trivial, ?_⟩
    refine (callsIn_wide.2 (lg_first _ F g p l (H.out.pure HB.out).lg (by omega))).mono ?_
    rintro e w1 ⟨rfl, rfl⟩
    have y2 := (cell_of_row _ _ 0 _ _ _ HM.out.1).trans (show (#[.string ⟨#[]⟩] : Array Value)[0]? = some (.string ⟨#[]⟩) from rfl)
    have y3 := (cell_of_row _ _ 0 _ _ _ HM.out.2).trans (show (#[.int .i64 0] : Array Value)[0]? = some (.int .i64 0) from rfl)
    have z2 := frozen_of_row _ _ 0 _ _ HM.out.1
    have z3 := frozen_of_row _ _ 0 _ _ HM.out.2
    gi_wp2
    refine ⟨.tuple #[.string ⟨#[]⟩, .int .i64 52], by simp [results, Tryz.results15, go_sem], rfl, ?_⟩
    exact box2_belowX w _ _
  · have d0 : decide ((0 : Int) ≤ q) = false := by simp; omega
    have d1 : decide (q < 0) = true := by simp; omega
    have n0 : ¬ (0 : Int) ≤ q := by omega
    clear q0
    have y2 := (cell_of_row _ _ 0 _ _ _ HM.out.1).trans (show (#[.string ⟨#[]⟩] : Array Value)[0]? = some (.string ⟨#[]⟩) from rfl)
    have y3 := (cell_of_row _ _ 0 _ _ _ HM.out.2).trans (show (#[.int .i64 0] : Array Value)[0]? = some (.int .i64 0) from rfl)
    have z2 := frozen_of_row _ _ 0 _ _ HM.out.1
    have z3 := frozen_of_row _ _ 0 _ _ HM.out.2
    gi_wp2
    refine ⟨trivial, ?_⟩
    gi_wp2
    refine ⟨trivial, ?_⟩
    gi_wp2
    refine ⟨.tuple #[.string ⟨#[]⟩, .int .i64 5], by simp [results, Tryz.results15, go_sem], rfl, ?_⟩
    exact box2_belowX w _ _
  · have d0 : decide ((0 : Int) ≤ q) = true := by simp; omega
    have d1 : decide (q < l.first) = false := by simp; omega
    have d2 : decide (q < 0) = false := by simp; omega
    have d3 : decide ((l.next : Int) ≤ q) = true := by simp; omega
    gi_wp2_with fail
    refine ⟨trivial, ?_⟩
    refine (callsIn_wide.2 (lg_first _ F g p l (H.out.pure HB.out).lg (by omega))).mono ?_
    rintro e w1 ⟨rfl, rfl⟩
    gi_wp2_with fail
    refine ⟨trivial, ?_⟩
    refine (callsIn_wide.2 (lg_next _ F g p l (H.out.pure HB.out).lg (by omega) (by omega))).mono ?_
    rintro e w2 ⟨rfl, hb2⟩
    have hm0 := (hb2.block _ (lt_of_block HM.out.1)).trans HM.out.1
    have hm1 := (hb2.block _ (lt_of_block HM.out.2)).trans HM.out.2
    have y2 := (cell_of_row _ _ 0 _ _ _ hm0).trans (show (#[.string ⟨#[]⟩] : Array Value)[0]? = some (.string ⟨#[]⟩) from rfl)
    have y3 := (cell_of_row _ _ 0 _ _ _ hm1).trans (show (#[.int .i64 0] : Array Value)[0]? = some (.int .i64 0) from rfl)
    have z2 := frozen_of_row _ _ 0 _ _ hm0
    have z3 := frozen_of_row _ _ 0 _ _ hm1
    obtain ⟨r0, r1, rb⟩ := HFIN.out w2 (HB.out.trans (hb2.mono HB.out.size)) hm0 hm1
    clear hm0 hm1 hb2
    gi_wp2
    refine ⟨.tuple #[.string ⟨#[]⟩, .int .i64 5], by simp [results, Tryz.results15, go_sem, r0, r1], rfl, rb⟩

set_option maxRecDepth 100000 in
set_option maxHeartbeats 4000000 in
theorem lg_range_no (w : World) (F : Nat → Prop) (g p b : Nat) (st : DkSt) (l : LgSt) (h : LgEnv w F g p b st l) (q r c : Int) (hq : ((q < 0 ∨ r < q) ∧ c = 1) ∨ (0 ≤ q ∧ q ≤ r ∧ q < l.first ∧ c = 52) ∨ (0 ≤ q ∧ q ≤ r ∧ l.first ≤ q ∧ (l.next : Int) < r ∧ c = 5)) :
    Calls Tryz.prog 23 #[.pointer (some ⟨g, 0, none⟩), .int .i64 q, .int .i64 r] w fun e w' => e = .returned (.tuple #[.slice none 0 0, .int .i64 c]) ∧ Below w.heap.size w w' := by
  have H := Lib.hid h
  have hfew := h.ok.few
  have hlen := h.ok.len
  have hpos := h.ok.pos
  clear h
  refine (callsIn_wide (n := 6)).1 ?_
  refine callsIn_of_wp_marks Tryz.func23 rfl trivial ?_ rfl
  simp only [Tryz.ntmps23, List.size_toArray, List.length_cons, List.length_nil, Nat.reduceAdd, Nat.reduceSub, Array.replicate_succ, Array.replicate_zero, List.push_toArray, List.append_toArray, List.nil_append, List.cons_append]
  obtain ⟨w1, hw1⟩ : ∃ w1, w1 = (((w.alloc (.cells #[.int .i64 q] 2)).alloc (.cells #[.int .i64 r] 2)).alloc (.cells #[.slice none 0 0] 24)).alloc (.cells #[.int .i64 0] 27) := ⟨_, rfl⟩
  obtain ⟨x, hx⟩ : ∃ x, x = w.heap.size := ⟨_, rfl⟩
  have hbz : Below w.heap.size w w1 := by rw [hw1]; exact ((((Below.refl _ _).alloc (Nat.le_refl _) _).alloc (by simp) _).alloc (by simp; omega) _).alloc (by simp; omega) _
  have k0 : w1.heap[x]? = some (.cells #[.int .i64 q] 2 (0, 0)) := by
    rw [hw1, hx]; exact (Below.heap_alloc _ _ _ (by simp; omega)).trans ((Below.heap_alloc _ _ _ (by simp; omega)).trans ((Below.heap_alloc _ _ _ (by simp)).trans (heap_alloc_new _ _)))
  have k1 : w1.heap[x + 1]? = some (.cells #[.int .i64 r] 2 (0, 0)) := by
    rw [hw1, hx]; exact (Below.heap_alloc _ _ _ (by simp)).trans ((Below.heap_alloc _ _ _ (by simp)).trans (alloc_topX _ _ (by simp)))
  have k2 : w1.heap[x + 1 + 1]? = some (.cells #[.slice none 0 0] 24 (0, 0)) := by
    rw [hw1, hx]; exact (Below.heap_alloc _ _ _ (by simp)).trans (alloc_topX _ _ (by simp))
  have k3 : w1.heap[x + 1 + 1 + 1]? = some (.cells #[.int .i64 0] 27 (0, 0)) := by
    rw [hw1, hx]; exact alloc_topX _ _ (by simp)
  have c0 : w1.cell? ⟨x, 0, none⟩ = some (.int .i64 q) := (cell_of_row _ _ _ _ _ _ k0).trans rfl
  have c1 : w1.cell? ⟨x + 1, 0, none⟩ = some (.int .i64 r) := (cell_of_row _ _ _ _ _ _ k1).trans rfl
  have fin : ∀ (W : World) (c : Int), Below w1.heap.size w1 W → ((W.setCell ⟨x + 1 + 1, 0, none⟩ (.slice none 0 0)).setCell ⟨x + 1 + 1 + 1, 0, none⟩ (.int .i64 c)).cell? ⟨x + 1 + 1, 0, none⟩ = some (.slice none 0 0) ∧ ((W.setCell ⟨x + 1 + 1, 0, none⟩ (.slice none 0 0)).setCell ⟨x + 1 + 1 + 1, 0, none⟩ (.int .i64 c)).cell? ⟨x + 1 + 1 + 1, 0, none⟩ = some (.int .i64 c) ∧
      Below w.heap.size w ((W.setCell ⟨x + 1 + 1, 0, none⟩ (.slice none 0 0)).setCell ⟨x + 1 + 1 + 1, 0, none⟩ (.int .i64 c)) := fun W c hb => by
    have h2 := (hb.block _ (lt_of_block k2)).trans k2
    have h3 := (hb.block _ (lt_of_block k3)).trans k3
    exact ⟨(cell_of_row _ _ _ _ _ _ ((Below.heap_setCell _ _ _ _ (by simp)).trans (one_setCell h2))).trans rfl, (cell_of_row _ _ _ _ _ _ (one_setCell ((Below.heap_setCell _ _ _ _ (by simp)).trans h3))).trans rfl, ((hbz.trans (hb.mono hbz.size)).setCell (by rw [hx]; simp; omega) _).setCell (by rw [hx]; simp; omega) _⟩
  have cells : ∀ W : World, Below w1.heap.size w1 W → W.cell? ⟨x + 1 + 1, 0, none⟩ = some (.slice none 0 0) ∧ W.cell? ⟨x + 1 + 1 + 1, 0, none⟩ = some (.int .i64 0) ∧ W.frozen? ⟨x + 1 + 1, 0, none⟩ = false ∧ W.frozen? ⟨x + 1 + 1 + 1, 0, none⟩ = false := fun W hb => by
    have h2 := (hb.block _ (lt_of_block k2)).trans k2
    have h3 := (hb.block _ (lt_of_block k3)).trans k3
    exact ⟨(cell_of_row _ _ _ _ _ _ h2).trans rfl, (cell_of_row _ _ _ _ _ _ h3).trans rfl, frozen_of_row _ _ 0 _ _ h2, frozen_of_row _ _ 0 _ _ h3⟩
  have HK := Lib.hid (And.intro k0 (And.intro k1 (And.intro k2 k3)))
  have HB := Lib.hid hbz
  have HX := Lib.hid hx
  have HFIN := Lib.hid fin
  have HCE := Lib.hid cells
  clear k0 k1 k2 k3 hbz fin cells
  by_cases ha : q < 0 ∨ r < q
  · obtain rfl : c = 1 := by rcases hq with ⟨_, h⟩ | ⟨h1, h2, _⟩ | ⟨h1, h2, _⟩ <;> omega
    have c2 := (HCE.out w1 (Below.refl _ _)).1
    have c3 := (HCE.out w1 (Below.refl _ _)).2.1
    have z2 := (HCE.out w1 (Below.refl _ _)).2.2.1
    have z3 := (HCE.out w1 (Below.refl _ _)).2.2.2
    obtain ⟨r0, r1, rb⟩ := HFIN.out w1 1 (Below.refl _ _)
    by_cases hq0 : q < 0
    · have d0 : decide (q < 0) = true := by simp; omega
      gi_wp2
      refine ⟨.tuple #[.slice none 0 0, .int .i64 1], by simp [results, Tryz.results23, go_sem], rfl, ?_⟩
      exact ((((Below.refl _ _).alloc (Nat.le_refl _) _).alloc (by simp) _).alloc (by simp; omega) _).alloc (by simp; omega) _
    · have d0 : decide (q < 0) = false := by simp; omega
      have d1 : decide (r < q) = true := by simp; omega
      gi_wp2
      refine ⟨.tuple #[.slice none 0 0, .int .i64 1], by simp [results, Tryz.results23, go_sem], rfl, ?_⟩
      exact ((((Below.refl _ _).alloc (Nat.le_refl _) _).alloc (by simp) _).alloc (by simp; omega) _).alloc (by simp; omega) _
  · have hq0 : ¬ q < 0 := fun h => ha (.inl h)
    have hqr : ¬ r < q := fun h => ha (.inr h)
    have d0 : decide (q < 0) = false := by simp; omega
    have d1 : decide (r < q) = false := by simp; omega
    clear ha
    gi_wp2_with fail
    rw [← hw1, ← hx]
    clear hw1 hx
    refine wpIn_wide.2 ?_
    by_cases hf : q < l.first
    · obtain rfl : c = 52 := by rcases hq with ⟨h, _⟩ | ⟨_, _, _, h⟩ | ⟨_, _, h, _⟩ <;> omega
      have hnf : decide (q < l.first) = true := by simp; omega
      go_region_held3 (fun w' => w'.cell? ⟨x, 0, none⟩ = some (.int .i64 q)) (first | exact c0 | go_keep) (first
        | (go_at_call 11; refine (lg_first _ F g p l (H.out.pure (by first | exact HB.out | exact HB.out.drew)).lg (by omega)).mono ?_; rintro e w2 ⟨rfl, rfl⟩))
      have c2 := (HCE.out w1 (Below.refl _ _)).1
      have c3 := (HCE.out w1 (Below.refl _ _)).2.1
      have z2 := (HCE.out w1 (Below.refl _ _)).2.2.1
      have z3 := (HCE.out w1 (Below.refl _ _)).2.2.2
      obtain ⟨r0, r1, rb⟩ := HFIN.out w1 52 (Below.refl _ _)
      gi_wp2
      refine ⟨.tuple #[.slice none 0 0, .int .i64 52], by simp [results, Tryz.results23, go_sem, r0, r1], rfl, rb.drew⟩
    · obtain ⟨hnr, rfl⟩ : (l.next : Int) < r ∧ c = 5 := by rcases hq with ⟨h, _⟩ | ⟨_, _, h, _⟩ | ⟨_, _, _, h1, h2⟩ <;> first | exact ⟨h1, h2⟩ | omega
      have hnf : decide (q < l.first) = false := by simp; omega
      go_region_held3 (fun w' => w'.cell? ⟨x, 0, none⟩ = some (.int .i64 q)) (first | exact c0 | go_keep) (first
        | (go_at_call 11; refine (lg_first _ F g p l (H.out.pure (by first | exact HB.out | exact HB.out.drew)).lg (by omega)).mono ?_; rintro e w2 ⟨rfl, rfl⟩))
      have hnn : decide ((l.next : Int) < r) = true := by simp; omega
      gi_wp2_with fail
      refine wpIn_wide.2 ?_
      have c1d : w1.drew.cell? ⟨x + 1, 0, none⟩ = some (.int .i64 r) := c1
      go_region_held3 (fun w' => w'.cell? ⟨x + 1, 0, none⟩ = some (.int .i64 r)) (first | exact c1d | exact x1 | go_keep) (first
        | (go_at_call 12; refine (lg_next _ F g p l (H.out.pure (by first | exact HB.out.drew | exact HB.out.drew.drew)).lg (by omega) (by omega)).mono ?_; rintro e w2 ⟨rfl, hb2⟩; have HB2 := Lib.hid ((show Below w1.heap.size w1 _ by first | exact (Below.refl _ _).drew | exact (Below.refl _ _).drew.drew).trans hb2); have x1 := (HB2.out.cell (p := ⟨x + 1, 0, none⟩) (ltOfCell c1)).trans c1; clear hb2))
      have c2 := (HCE.out w2 HB2.out).1
      have c3 := (HCE.out w2 HB2.out).2.1
      have z2 := (HCE.out w2 HB2.out).2.2.1
      have z3 := (HCE.out w2 HB2.out).2.2.2
      obtain ⟨r0, r1, rb⟩ := HFIN.out w2 5 HB2.out
      gi_wp2
      refine ⟨.tuple #[.slice none 0 0, .int .i64 5], by simp [results, Tryz.results23, go_sem, r0, r1], rfl, rb⟩

set_option maxRecDepth 100000 in
set_option maxHeartbeats 1000000 in
theorem lg_append_nil (w : World) (s : ByteArray) : Calls Tryz.prog 14 #[.pointer none, .string s] w fun e w' => e = .returned (.tuple #[.int .i64 0, .int .i64 2]) ∧ Below w.heap.size w w' := by
  go_enter Tryz.func14, Tryz.ntmps14
  go_wp2
  refine bodyPost_ret (v := .tuple #[.int .i64 0, .int .i64 2]) (by simp [results, Tryz.results14, go_sem]) rfl ?_
  exact ⟨rfl, Below.refl _ _⟩

set_option maxRecDepth 100000 in
set_option maxHeartbeats 1000000 in
theorem lg_sync_nil (w : World) : Calls Tryz.prog 27 #[.pointer none] w fun e w' => e = .returned (.int .i64 2) ∧ Below w.heap.size w w' := by
  go_enter Tryz.func27, Tryz.ntmps27
  go_wp2
  go_ret
  exact ⟨rfl, Below.refl _ _⟩

set_option maxRecDepth 100000 in
set_option maxHeartbeats 1000000 in
theorem lg_first_nil (w : World) : Calls Tryz.prog 11 #[.pointer none] w fun e w' => e = .returned (.int .i64 0) ∧ Below w.heap.size w w' := by
  go_enter Tryz.func11, Tryz.ntmps11
  go_wp2
  go_ret
  exact ⟨rfl, Below.refl _ _⟩

set_option maxRecDepth 100000 in
set_option maxHeartbeats 1000000 in
theorem lg_next_nil (w : World) : Calls Tryz.prog 12 #[.pointer none] w fun e w' => e = .returned (.int .i64 0) ∧ Below w.heap.size w w' := by
  go_enter Tryz.func12, Tryz.ntmps12
  go_wp2
  go_ret
  exact ⟨rfl, Below.refl _ _⟩

set_option maxRecDepth 100000 in
set_option maxHeartbeats 1000000 in
theorem lg_read_nil (w : World) (q : Int) : Calls Tryz.prog 15 #[.pointer none, .int .i64 q] w fun e w' => e = .returned (.tuple #[.string ⟨#[]⟩, .int .i64 2]) ∧ Below w.heap.size w w' := by
  refine (callsIn_wide (n := 6)).1 ?_
  refine callsIn_of_wp_marks Tryz.func15 rfl trivial ?_ rfl
  simp only [Tryz.ntmps15, List.size_toArray, List.length_cons, List.length_nil, Nat.reduceAdd, Nat.reduceSub, Array.replicate_succ, Array.replicate_zero, List.push_toArray, List.append_toArray, List.nil_append, List.cons_append]
  gi_wp2
  refine ⟨.tuple #[.string ⟨#[]⟩, .int .i64 2], by simp [results, Tryz.results15, go_sem], rfl, ?_⟩
  exact box2_belowX w _ _

set_option maxRecDepth 100000 in
set_option maxHeartbeats 1000000 in
theorem lg_range_nil (w : World) (q r : Int) : Calls Tryz.prog 23 #[.pointer none, .int .i64 q, .int .i64 r] w fun e w' => e = .returned (.tuple #[.slice none 0 0, .int .i64 2]) ∧ Below w.heap.size w w' := by
  refine (callsIn_wide (n := 6)).1 ?_
  refine callsIn_of_wp_marks Tryz.func23 rfl trivial ?_ rfl
  simp only [Tryz.ntmps23, List.size_toArray, List.length_cons, List.length_nil, Nat.reduceAdd, Nat.reduceSub, Array.replicate_succ, Array.replicate_zero, List.push_toArray, List.append_toArray, List.nil_append, List.cons_append]
  gi_wp2
  refine ⟨.tuple #[.slice none 0 0, .int .i64 2], by simp [results, Tryz.results23, go_sem], rfl, ?_⟩
  exact ((((Below.refl _ _).alloc (Nat.le_refl _) _).alloc (by simp) _).alloc (by simp; omega) _).alloc (by simp; omega) _
end Go.Proofs.YtcdjckdbcffgdaaGreatDoor

/- seglog.Range where nothing is gone over. -/
namespace Go.Proofs.YtcdjckdbcffgdaaGreatDoor
open Go.RowKit Go.Shelf
attribute [local go_sem] Oper.semAt_some

set_option maxRecDepth 100000 in
set_option maxHeartbeats 4000000 in
theorem lg_range_eq (w : World) (F : Nat → Prop) (g p b : Nat) (st : DkSt) (l : LgSt) (h : LgEnv w F g p b st l) (q : Nat) (h1 : l.first ≤ (q : Int)) (h3 : q ≤ l.next) :
    Calls Tryz.prog 23 #[.pointer (some ⟨g, 0, none⟩), .int .i64 (q : Int), .int .i64 (q : Int)] w fun e w' => e = .returned (.tuple #[.slice none 0 0, .int .i64 0]) ∧ Below w.heap.size w w' := by
  have H := Lib.hid h
  have htop := h.ok.top
  have hfew := h.ok.few
  have hlen := h.ok.len
  have hpos := h.ok.pos
  clear h
  refine (callsIn_wide (n := 6)).1 ?_
  refine callsIn_of_wp_marks Tryz.func23 rfl trivial ?_ rfl
  simp only [Tryz.ntmps23, List.size_toArray, List.length_cons, List.length_nil, Nat.reduceAdd, Nat.reduceSub, Array.replicate_succ, Array.replicate_zero, List.push_toArray, List.append_toArray, List.nil_append, List.cons_append]
  obtain ⟨w1, hw1⟩ : ∃ w1, w1 = (((w.alloc (.cells #[.int .i64 (q : Int)] 2)).alloc (.cells #[.int .i64 (q : Int)] 2)).alloc (.cells #[.slice none 0 0] 24)).alloc (.cells #[.int .i64 0] 27) := ⟨_, rfl⟩
  obtain ⟨x, hx⟩ : ∃ x, x = w.heap.size := ⟨_, rfl⟩
  have hsz : w1.heap.size = x + 4 := by rw [hw1, hx]; simp
  have hbz : Below w.heap.size w w1 := by rw [hw1]; exact ((((Below.refl _ _).alloc (Nat.le_refl _) _).alloc (by simp) _).alloc (by simp; omega) _).alloc (by simp; omega) _
  have k0 : w1.heap[x]? = some (.cells #[.int .i64 (q : Int)] 2 (0, 0)) := by
    rw [hw1, hx]; exact (Below.heap_alloc _ _ _ (by simp; omega)).trans ((Below.heap_alloc _ _ _ (by simp; omega)).trans ((Below.heap_alloc _ _ _ (by simp)).trans (heap_alloc_new _ _)))
  have k1 : w1.heap[x + 1]? = some (.cells #[.int .i64 (q : Int)] 2 (0, 0)) := by
    rw [hw1, hx]; exact (Below.heap_alloc _ _ _ (by simp)).trans ((Below.heap_alloc _ _ _ (by simp)).trans (alloc_topX _ _ (by simp)))
  have k2 : w1.heap[x + 1 + 1]? = some (.cells #[.slice none 0 0] 24 (0, 0)) := by
    rw [hw1, hx]; exact (Below.heap_alloc _ _ _ (by simp)).trans (alloc_topX _ _ (by simp))
  have k3 : w1.heap[x + 1 + 1 + 1]? = some (.cells #[.int .i64 0] 27 (0, 0)) := by
    rw [hw1, hx]; exact alloc_topX _ _ (by simp)
  have c0 : w1.cell? ⟨x, 0, none⟩ = some (.int .i64 (q : Int)) := (cell_of_row _ _ _ _ _ _ k0).trans rfl
  have c1 : w1.cell? ⟨x + 1, 0, none⟩ = some (.int .i64 (q : Int)) := (cell_of_row _ _ _ _ _ _ k1).trans rfl
  have HK := Lib.hid (And.intro k0 (And.intro k1 (And.intro k2 k3)))
  have HB := Lib.hid hbz
  have HX := Lib.hid hx
  clear k0 k1 k2 k3 hbz
  have d0 : decide ((q : Int) < 0) = false := by simp
  have d1 : decide (q < q) = false := by simp
  gi_wp2_with fail
  rw [← hw1, ← hx]
  clear hw1 hx
  refine wpIn_wide.2 ?_
  have hnf : decide ((q : Int) < l.first) = false := by simp; omega
  go_region_held3 (fun w' => w'.cell? ⟨x, 0, none⟩ = some (.int .i64 (q : Int))) (first | exact c0 | go_keep) (first
      | (go_at_call 11; refine (lg_first _ F g p l (H.out.pure (by first | exact HB.out | exact HB.out.drew)).lg (by omega)).mono ?_; rintro e w2 ⟨rfl, rfl⟩))
  have hnn : decide ((l.next : Int) < (q : Int)) = false := by simp; omega
  have hn9 : decide (l.next < q) = false := by simp; omega
  gi_wp2_with fail
  refine wpIn_wide.2 ?_
  have c0d : w1.drew.cell? ⟨x, 0, none⟩ = some (.int .i64 (q : Int)) := c0
  have c1d : w1.drew.cell? ⟨x + 1, 0, none⟩ = some (.int .i64 (q : Int)) := c1
  go_region_held3 (fun w' => w'.cell? ⟨x + 1, 0, none⟩ = some (.int .i64 (q : Int))) (first | exact c1d | exact x1 | go_keep) (first
      | (go_at_call 12; refine (lg_next _ F g p l (H.out.pure (by first | exact HB.out.drew | exact HB.out.drew.drew)).lg (by omega) (by omega)).mono ?_; rintro e w2 ⟨rfl, hb2⟩; have HB2 := Lib.hid ((show Below w1.heap.size w1 _ by first | exact (Below.refl _ _).drew | exact (Below.refl _ _).drew.drew).trans hb2); have x1 := (HB2.out.cell (p := ⟨x + 1, 0, none⟩) (by have := ltOfCell c1; omega)).trans c1; clear hb2))
  have x0 := (HB2.out.cell (p := ⟨x, 0, none⟩) (by have := ltOfCell c0; omega)).trans c0
  have hk2 := (HB2.out.block _ (lt_of_block HK.out.2.2.1)).trans HK.out.2.2.1
  have hk3 := (HB2.out.block _ (lt_of_block HK.out.2.2.2)).trans HK.out.2.2.2
  have y2 := (cell_of_row _ _ 0 _ _ _ hk2).trans (show (#[.slice none 0 0] : Array Value)[0]? = _ from rfl)
  have y3 := (cell_of_row _ _ 0 _ _ _ hk3).trans (show (#[.int .i64 0] : Array Value)[0]? = _ from rfl)
  have z2 := frozen_of_row _ _ 0 _ _ hk2
  have z3 := frozen_of_row _ _ 0 _ _ hk3
  have HBW := Lib.hid (HB.out.trans (HB2.out.mono HB.out.size))
  have HK2 := Lib.hid (And.intro hk2 hk3)
  clear hk2 hk3
  gi_wp2
  have hf : Fr (fun k => k = x + 1 + 1 ∨ k = x + 1 + 1 + 1) w2 ((w2.setCell ⟨x + 1 + 1, 0, none⟩ (.slice none 0 0)).setCell ⟨x + 1 + 1 + 1, 0, none⟩ (.int .i64 0)) := ((Fr.refl (fun k => k = x + 1 + 1 ∨ k = x + 1 + 1 + 1) w2).setCell ⟨x + 1 + 1, 0, none⟩ (fun _ => .inl rfl) _).setCell ⟨x + 1 + 1 + 1, 0, none⟩ (fun _ => .inr rfl) _
  have r0 : ((w2.setCell ⟨x + 1 + 1, 0, none⟩ (.slice none 0 0)).setCell ⟨x + 1 + 1 + 1, 0, none⟩ (.int .i64 0)).cell? ⟨x + 1 + 1, 0, none⟩ = some (.slice none 0 0) := (cell_of_row _ _ _ _ _ _ ((Below.heap_setCell _ _ _ _ (by simp)).trans (one_setCell HK2.out.1))).trans rfl
  have r1 : ((w2.setCell ⟨x + 1 + 1, 0, none⟩ (.slice none 0 0)).setCell ⟨x + 1 + 1 + 1, 0, none⟩ (.int .i64 0)).cell? ⟨x + 1 + 1 + 1, 0, none⟩ = some (.int .i64 0) := (cell_of_row _ _ _ _ _ _ (one_setCell ((Below.heap_setCell _ _ _ _ (by simp)).trans HK2.out.2))).trans rfl
  refine ⟨.tuple #[.slice none 0 0, .int .i64 0], by simp [results, Tryz.results23, go_sem, r0, r1], rfl, ?_⟩
  exact HBW.out.trans (hf.below (B := w.heap.size) HBW.out.size (fun k hk e => by have := HX.out; omega))
end Go.Proofs.YtcdjckdbcffgdaaGreatDoor
