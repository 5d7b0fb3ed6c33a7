/- The walk of seglog.Read. -/
import Derived.Test.YtcdjckdbcffgdaaGreatDoorMkPay
namespace Go.Proofs.YtcdjckdbcffgdaaGreatDoor
open Go.RowKit Go.Shelf
attribute [local go_sem] Oper.semAt_some

theorem payloads_any (g : Nat) (q : Int) (w : World) :
    Calls Tryz.prog 60 #[.pointer (some ⟨g, 0, none⟩), .int .i64 q] w fun e w' => e = .returned (.func (.func 115) #[] #[.pointer (some ⟨w.heap.size + 1, 0, none⟩), .pointer (some ⟨w.heap.size, 0, none⟩)]) ∧
      w' = (w.alloc (.cells #[.pointer (some ⟨g, 0, none⟩)] 30)).alloc (.cells #[.int .i64 q] 2) := by
  have hmf : ∀ (fn : Fn) (first cap : Array Value) (w : World), (Instr.makeFunc fn first cap).run Tryz.prog w = .ok (.func fn first cap) w := fun _ _ _ _ => rfl
  go_enter Tryz.func60, Tryz.ntmps60
  go_wp2
  go_ret
  exact ⟨by simp, rfl⟩

/-- The state of Read's loop: its results' boxes. -/
structure PdAt (w W : World) (b : Nat) (p : ByteArray) (e : Int) : Prop where
  b0 : W.heap[b]? = some (.cells #[.string p] 9 (0, 0))
  b1 : W.heap[b + 1]? = some (.cells #[.int .i64 e] 27 (0, 0))
  below : Below b w W
theorem PdAt.bears {w W W' : World} {b : Nat} {p : ByteArray} {e : Int} (h : PdAt w W b p e) (hf : Fr (fun k => b + 2 ≤ k) W W') : PdAt w W' b p e :=
  ⟨hf.heapAt h.b0 (by omega), hf.heapAt h.b1 (by omega), h.below.trans (hf.below (B := b) (by have := lt_of_block h.b0; omega) (fun k hk => by omega))⟩
def PdStop (w : World) (b : Nat) (c : Code) (pre : List RdX) (W : World) : Prop := c = .ret ∧ ∃ x, pre = [x] ∧ PdAt w W b x.p x.e
def PdRun (w : World) (b : Nat) (pre : List RdX) (W : World) : Prop := pre = [] ∧ PdAt w W b ⟨#[]⟩ 0
theorem PayKeep.trans {F : Nat → Prop} {p b lB sB : Nat} {A B C : World} (h : PayKeep F p b lB sB A B) (k : PayKeep F p b lB sB B C) : PayKeep F p b lB sB A C := ⟨Nat.le_trans h.1 k.1, fun i hi => (k.2 i hi).trans (h.2 i hi)⟩
theorem LgEnv.all_lt {w : World} {F : Nat → Prop} {g p b : Nat} {st : DkSt} {l : LgSt} (h : LgEnv w F g p b st l) (k : Nat) (hk : LgAll F p b k) : k < w.heap.size := by
  rcases hk with hk | rfl | rfl | rfl
  · exact h.lt k hk
  · exact h.dk.lt
  · exact h.dk.own.lt
  · exact pow_lt h.pow

set_option maxRecDepth 100000 in
set_option maxHeartbeats 4000000 in
theorem lg_read_ok (w : World) (F : Nat → Prop) (g p b : Nat) (st : DkSt) (l : LgSt) (h : LgEnv w F g p b st l) (hon : LgOn st l) (hlit : st.dark = false) (q : Nat) (h1 : l.first ≤ (q : Int)) (h2 : q < l.next) :
    Calls Tryz.prog 15 #[.pointer (some ⟨g, 0, none⟩), .int .i64 (q : Int)] w fun e w' => (∃ r : ByteArray, r.data.toList = l.at (q - l.first.toNat) ∧ e = .returned (.tuple #[.string r, .int .i64 0])) ∧ Below w.heap.size w w' := by
  have H := Lib.hid h
  have HON := Lib.hid hon
  have htop := h.ok.top
  have hfew := h.ok.few
  have hlen := h.ok.len
  have hpos := h.ok.pos
  clear h hon
  refine (callsIn_wide (n := 6)).1 ?_
  refine callsIn_of_wp_marks Tryz.func15 rfl trivial ?_ rfl
  simp only [Tryz.ntmps15, List.size_toArray, List.length_cons, List.length_nil, Nat.reduceAdd, Nat.reduceSub, Array.replicate_succ, Array.replicate_zero, List.push_toArray, List.append_toArray, List.nil_append, List.cons_append]
  gi_wp2_with fail
  refine ⟨trivial, ?_⟩
  have hbz := box2_belowX w (.cells #[.string ⟨#[]⟩] 9) (.cells #[.int .i64 0] 27)
  have hk0 : ((w.alloc (.cells #[.string ⟨#[]⟩] 9)).alloc (.cells #[.int .i64 0] 27)).heap[w.heap.size]? = some (.cells #[.string ⟨#[]⟩] 9 (0, 0)) := (Below.heap_alloc _ _ _ (by simp)).trans (heap_alloc_new _ _)
  have hk1 : ((w.alloc (.cells #[.string ⟨#[]⟩] 9)).alloc (.cells #[.int .i64 0] 27)).heap[w.heap.size + 1]? = some (.cells #[.int .i64 0] 27 (0, 0)) := alloc_topX _ _ (by simp)
  refine (callsIn_wide.2 (lg_first _ F g p l (H.out.pure hbz).lg (by omega))).mono ?_
  rintro e w1 ⟨rfl, rfl⟩
  have HM1 := Lib.hid (And.intro hk0 hk1)
  have HB1 := Lib.hid hbz
  have hnlt : ¬ (q : Int) < l.first := by omega
  have hnl2 : ¬ (l.next : Int) ≤ (q : Int) := by omega
  clear hk0 hk1 hbz
  gi_wp2_with fail
  refine ⟨trivial, ?_⟩
  refine (callsIn_wide.2 (lg_next _ F g p l (H.out.pure HB1.out).lg (by omega) (by omega))).mono ?_
  rintro e w2 ⟨rfl, hb2⟩
  have HB2 := Lib.hid (HB1.out.trans (hb2.mono HB1.out.size))
  have m0 := (hb2.block _ (lt_of_block HM1.out.1)).trans HM1.out.1
  have m1 := (hb2.block _ (lt_of_block HM1.out.2)).trans HM1.out.2
  have hd2 : w.heap.size + 2 ≤ w2.heap.size := by have := lt_of_block m1; omega
  have HM2 := Lib.hid (And.intro m0 m1)
  clear hb2 m0 m1
  gi_wp2_with fail
  refine ⟨trivial, ?_⟩
  refine (callsIn_wide.2 (payloads_any g (q : Int) _)).mono ?_
  rintro e w3 ⟨rfl, rfl⟩
  gi_wp2
  obtain ⟨W0, hW0⟩ : ∃ W0, W0 = (w2.alloc (.cells #[.pointer (some ⟨g, 0, none⟩)] 30)).alloc (.cells #[.int .i64 (q : Int)] 2) := ⟨_, rfl⟩
  obtain ⟨x, hx⟩ : ∃ x, x = w.heap.size := ⟨_, rfl⟩
  obtain ⟨d, hd⟩ : ∃ d, d = w2.heap.size := ⟨_, rfl⟩
  have hsz : W0.heap.size = d + 2 := by rw [hW0, hd]; simp
  have hbel : Below w2.heap.size w2 W0 := by rw [hW0]; exact box2_belowX w2 _ _
  have kL : W0.heap[d]? = some (.cells #[.pointer (some ⟨g, 0, none⟩)] 30 (0, 0)) := by
    rw [hW0, hd]; exact (Below.heap_alloc _ _ _ (by simp)).trans (heap_alloc_new _ _)
  have kS : W0.heap[d + 1]? = some (.cells #[.int .i64 (q : Int)] 2 (0, 0)) := by
    rw [hW0, hd]; exact alloc_topX _ _ (by simp)
  have hbw : Below w.heap.size w W0 := HB2.out.trans (hbel.mono HB2.out.size)
  have henv := H.out.pure hbw
  have hxd : x + 2 ≤ d := by omega
  have hgt : PdRun w x [] W0 := by
    refine ⟨rfl, ?_, ?_, ?_⟩
    · rw [hx]; exact (hbel.block _ (lt_of_block HM2.out.1)).trans HM2.out.1
    · rw [hx]; exact (hbel.block _ (lt_of_block HM2.out.2)).trans HM2.out.2
    · rw [hx]; exact hbw
  have hfar : ∀ k, LgAll F p b k → k < x := fun k hk => by rw [hx]; exact H.out.all_lt k hk
  rw [← hW0, ← hx, ← hd]
  have HX := Lib.hid hx
  have HENV := Lib.hid henv
  have HK := Lib.hid (And.intro kL kS)
  have HGT := Lib.hid hgt
  have HFAR := Lib.hid hfar
  clear hW0 hbel kL kS hd2 hx hd hbw henv hgt hfar
  refine wpIn_range_ownB (n := 6) rfl (by omega) (gf := 115) rfl trivial (enters_of Tryz.func115 (by kernel_rfl) rfl)
    (pay_seq W0 F g p b st l HENV.out HON.out hlit (d + 1) d q h1 HK.out.2 HK.out.1 (by omega) (fun hk => by have := HFAR.out _ hk; omega) 1 (by omega))
    (fun k hk => by omega) (fun h k => PayKeep.trans h k)
    (fun W o h => ⟨by rw [World.putObj_size]; exact Nat.le_refl _, fun k hk => World.putObj_heap_other (by
      rcases hk with hk | rfl | rfl
      · have := HFAR.out k hk; omega
      · omega
      · omega)⟩) (fun _ => rfl)
    (PdRun w x) (PdStop w x) ?bears ?bears2 HGT.out (fun pre W h => by rw [h.1]; simp)
    (fun pre y a' W => PdRun w x pre W ∧ a' = { tmps := #[.pointer (some ⟨g, 0, none⟩), .int .i64 (q : Int), undef, undef, .pointer (some ⟨x, 0, none⟩), .pointer (some ⟨x + 1, 0, none⟩), .string y.p, .int .i64 y.e, .bool false, .pointer (some ⟨g, 0, none⟩), .bool false, .bool (decide ((q : Int) < l.first)), .int .i64 (q : Int), .bool true, .bool true, .int .i64 (q : Int), .pointer (some ⟨g, 0, none⟩), .int .i64 l.first, .bool (decide ((q : Int) < l.first)), .bool (decide ((q : Int) < l.first)), .bool (decide ((q : Int) < 0)), .int .i64 (q : Int), .bool (decide ((q : Int) < 0)), .bool (decide ((q : Int) < 0)), .int .i64 (q : Int), .pointer (some ⟨g, 0, none⟩), .int .i64 (l.next : Int), .bool false, .bool (decide ((q : Int) < 0)), .pointer (some ⟨g, 0, none⟩), .int .i64 (q : Int), .func (.func 115) #[] #[.pointer (some ⟨d + 1, 0, none⟩), .pointer (some ⟨d, 0, none⟩)], .string y.p, .int .i64 y.e, undef, undef], defers := [] })
    ?hA ?assign ?body ?done ?stop
  case bears => exact fun pre W1 W2 h hf => ⟨h.1, h.2.bears (hf.mono (fun i _ e => by omega))⟩
  case bears2 =>
    rintro c pre W1 W2 ⟨h1, y, h2, h3⟩ hf
    exact ⟨h1, y, h2, h3.bears (hf.mono (fun i _ e => by omega))⟩
  case hA =>
    rintro pre y a' W o hlt ⟨h1, h2⟩
    exact ⟨⟨h1.1, h1.2.bears ((Fr.refl _ W).putObj _ (fun _ => by omega) o)⟩, h2⟩
  case assign =>
    intro pre y W K hlt hI hK
    have HI := Lib.hid hI
    have HK := Lib.hid hK
    clear hI hK
    unfold rdEnc
    gi_wp2
    exact HK.out _ _ ⟨HI.out, rfl⟩ (RgIn.refl _ _) (Nat.le_refl _) ⟨Nat.le_refl _, fun _ _ => rfl⟩
  case body =>
    rintro pre y a' W hlt ⟨⟨rfl, hg⟩, rfl⟩ hlen
    have c0 : W.cell? ⟨x, 0, none⟩ = some (.string ⟨#[]⟩) := (cell_of_row _ _ _ _ _ _ hg.b0).trans rfl
    have c1 : W.cell? ⟨x + 1, 0, none⟩ = some (.int .i64 0) := (cell_of_row _ _ _ _ _ _ hg.b1).trans rfl
    have z0 : W.frozen? ⟨x, 0, none⟩ = false := frozen_of_row _ _ 0 _ _ hg.b0
    have z1 : W.frozen? ⟨x + 1, 0, none⟩ = false := frozen_of_row _ _ 0 _ _ hg.b1
    have HG := Lib.hid hg
    clear hg
    gi_wp2
    have hf : Fr (fun k => k = x ∨ k = x + 1) W ((W.setCell ⟨x, 0, none⟩ (.string y.p)).setCell ⟨x + 1, 0, none⟩ (.int .i64 y.e)) := ((Fr.refl (fun k => k = x ∨ k = x + 1) W).setCell ⟨x, 0, none⟩ (fun _ => .inl rfl) _).setCell ⟨x + 1, 0, none⟩ (fun _ => .inr rfl) _
    exact ⟨RgIn.fr hf (by omega) (by omega) (by omega), rfl, y, rfl, (Below.heap_setCell _ _ _ _ (by simp)).trans (one_setCell HG.out.b0), one_setCell ((Below.heap_setCell _ _ _ _ (by simp)).trans HG.out.b1), HG.out.below.trans (hf.below (B := x) (by omega) (fun k hk => by omega))⟩
  case done => exact fun xs W h => h.elim
  case stop =>
    rintro c pre W hsp ⟨rfl, y, rfl, hg⟩ hK
    have hy := hsp 0 (by simp)
    have HPP := Lib.hid hy
    have HKW := Lib.hid hK
    have HG := Lib.hid hg
    clear hsp hy hg hK
    gi_wp2
    refine ⟨by simp, .inl ⟨_, _, rfl, run_takeDeferred HKW.out, ?_⟩⟩
    have hf3 : Fr (fun k => k = W0.heap.size) W (W.putObj W0.heap.size (.deferred none)) := (Fr.refl (fun k => k = W0.heap.size) W).putObj W0.heap.size (fun _ => rfl) _
    have g3 := HG.out.bears (hf3.mono (T := fun k => x + 2 ≤ k) (fun i _ e => by omega))
    have r0 : (W.putObj W0.heap.size (.deferred none)).cell? ⟨x, 0, none⟩ = some (.string y.p) := (cell_of_row _ _ _ _ _ _ g3.b0).trans rfl
    have r1 : (W.putObj W0.heap.size (.deferred none)).cell? ⟨x + 1, 0, none⟩ = some (.int .i64 0) := (cell_of_row _ _ _ _ _ _ g3.b1).trans (by rw [show y.e = 0 from HPP.out.1]; rfl)
    refine ⟨.tuple #[.string y.p, .int .i64 0], by simp [results, Tryz.results15, go_sem, r0, r1], ⟨y.p, HPP.out.2, rfl⟩, ?_⟩
    rw [← HX.out]; exact g3.below
end Go.Proofs.YtcdjckdbcffgdaaGreatDoor
