/- The steps of seglog: gone, unless, those of begin, each as a closure. -/
import Derived.Test.YtcdjckdbcffgdaaGreatDoorMAp
import Derived.Test.YtcdjckdbcffgdaaGreatDoorMAl
namespace Go.Proofs.YtcdjckdbcffgdaaGreatDoor
open Go.RowKit

theorem IsDk.ofD {p b : Nat} {w w' : World} {v : Value} {q o : Nat} (h : DFr p b w w') (hc : w.cell? ⟨q, o, none⟩ = some v) (h1 : q ≠ p) (h2 : q ≠ b) : w'.cell? ⟨q, o, none⟩ = some v := h.cellAt hc (fun k => k.elim h1 h2)

theorem cell_same {w w' : World} {k o : Nat} (h : w'.heap[k]? = w.heap[k]?) {v : Value} (hc : w.cell? ⟨k, o, none⟩ = some v) : w'.cell? ⟨k, o, none⟩ = some v := by
  rw [← hc]; unfold World.cell?; rw [h]

/-- A closure that does g to the disk, from the world W0 on, while its own blocks (K) are as they are. -/
structure DkStep (p b : Nat) (W0 : World) (K : Nat → Prop) (f : FnV) (g : DkSt → DkSt × Int) : Prop where
  ent : Enters Tryz.prog f.1
  lt : ∀ k, K k → k < W0.heap.size ∧ k ≠ p ∧ k ≠ b
  does : ∀ st W, IsDk W p b st → (∀ k, K k → W.heap[k]? = W0.heap[k]?) → Calls Tryz.prog f.1 (f.2.1 ++ f.2.2) W fun e w' => OpPost p b (g st) W e w'
theorem DkStep.keep {p b : Nat} {W0 W1 : World} {K : Nat → Prop} {f : FnV} {g : DkSt → DkSt × Int} (h : DkStep p b W0 K f g) (hs : W0.heap.size ≤ W1.heap.size) (h1 : ∀ k, K k → W1.heap[k]? = W0.heap[k]?) : DkStep p b W1 K f g :=
  ⟨h.ent, fun k hk => ⟨Nat.lt_of_lt_of_le (h.lt k hk).1 hs, (h.lt k hk).2⟩, fun st W hd h2 => h.does st W hd fun k hk => (h2 k hk).trans (h1 k hk)⟩
theorem DkStep.pure {p b : Nat} {W0 W1 : World} {K : Nat → Prop} {f : FnV} {g : DkSt → DkSt × Int} (h : DkStep p b W0 K f g) (hb : Below W0.heap.size W0 W1) : DkStep p b W1 K f g := h.keep hb.size fun k hk => hb.block k (h.lt k hk).1
theorem DkStep.wider {p b : Nat} {W0 : World} {K K2 : Nat → Prop} {f : FnV} {g : DkSt → DkSt × Int} (h : DkStep p b W0 K f g) (hk : ∀ k, K k → K2 k) (h2 : ∀ k, K2 k → k < W0.heap.size ∧ k ≠ p ∧ k ≠ b) : DkStep p b W0 K2 f g := ⟨h.ent, h2, fun st W hd h3 => h.does st W hd fun k h => h3 k (hk k h)⟩
def funcV (f : FnV) : Value := .func (.func f.1) f.2.1 f.2.2

set_option maxRecDepth 100000 in
set_option maxHeartbeats 1000000 in
theorem gone_act (w : World) (q r p b : Nat) (st : DkSt) (n : ByteArray) (hc : Capt w q r p n) (h : IsDk w p b st) (hn : n.size ≤ maxLen) :
    Calls Tryz.prog 86 #[.pointer (some ⟨q, 0, none⟩), .pointer (some ⟨r, 0, none⟩)] w fun e w' => OpPost p b (goneF n.data.toList st) w e w' := by
  have H := Lib.hid h
  have hx1 := hc.cq
  have hx2 := hc.cr
  clear hc h
  go_enter Tryz.func86, Tryz.ntmps86
  go_wp2_with fail
  refine (dk_delete _ p b st H.out n hn).mono ?_
  rintro e w1 ⟨rfl, hd, hf⟩
  have HD := Lib.hid hd
  have HF := Lib.hid hf
  clear hd hf hx1 hx2
  by_cases h5 : (dkDelete st n.data.toList).2 = 5
  · have e1 : goneF n.data.toList st = ((dkDelete st n.data.toList).1, 0) := by unfold goneF; rw [if_pos h5]
    have E1 := Lib.hid e1
    rw [h5]
    clear h5 e1
    go_wp2
    go_ret
    rw [E1.out]
    exact ⟨rfl, HD.out, HF.out⟩
  · have e1 : goneF n.data.toList st = ((dkDelete st n.data.toList).1, (dkDelete st n.data.toList).2) := by unfold goneF; rw [if_neg h5]
    have E1 := Lib.hid e1
    have hne : ((dkDelete st n.data.toList).2 == 5) = false := by simpa using h5
    clear h5 e1
    generalize (dkDelete st n.data.toList).2 = E at *
    go_wp2
    go_ret
    rw [E1.out]
    exact ⟨rfl, HD.out, HF.out⟩

set_option maxRecDepth 100000 in
set_option maxHeartbeats 1000000 in
theorem gone_any (w : World) (p : Nat) (n : ByteArray) (hn : n.size ≤ maxLen) (hp : p < w.heap.size) (b : Nat) (hb : b < w.heap.size) :
    Calls Tryz.prog 41 #[.pointer (some ⟨p, 0, none⟩), .string n] w fun e w' => ∃ f K, e = .returned (.agg #[funcV f]) ∧ Below w.heap.size w w' ∧ DkStep p b w' K f (goneF n.data.toList) ∧ ∀ k, K k → w.heap.size ≤ k := by
  have hmf : ∀ (fn : Fn) (first cap : Array Value) (w : World), (Instr.makeFunc fn first cap).run Tryz.prog w = .ok (.func fn first cap) w := fun _ _ _ _ => rfl
  go_enter Tryz.func41, Tryz.ntmps41
  go_wp2
  refine bodyPost_ret (v := .agg #[.func (.func 86) #[] #[.pointer (some ⟨w.heap.size, 0, none⟩), .pointer (some ⟨w.heap.size + 1, 0, none⟩)]]) (by simp [results, Tryz.results41, go_sem]) rfl ?_
  have hc := box3_captN (p := p) (n := n) (Fr.refl (fun _ => False) (((w.alloc (.cells #[.pointer (some ⟨p, 0, none⟩)] 26)).alloc (.cells #[.string n] 9)).alloc (.cells #[.func (.func 86) #[] #[.pointer (some ⟨w.heap.size, 0, none⟩), .pointer (some ⟨w.heap.size + 1, 0, none⟩)]] 88)))
  exact ⟨(_, _, _), fun k => k = w.heap.size ∨ k = w.heap.size + 1, rfl, box3_below _ _ _ _, ⟨enters_of Tryz.func86 (by kernel_rfl) rfl, fun k hk => by simp; omega, fun st W hd hf => cap_call (gone_act W _ _ p b st n ⟨cell_same (hf _ (.inl rfl)) hc.1.cq, cell_same (hf _ (.inr rfl)) hc.1.cr⟩ hd hn)⟩, fun k hk => by omega⟩

set_option maxRecDepth 100000 in
set_option maxHeartbeats 1000000 in
theorem unless_act (w : World) (c q r p b : Nat) (st : DkSt) (n : ByteArray) (hc : Capt w q r p n) (h : IsDk w p b st) (hn : n.size ≤ maxLen) (f : FnV) (g : DkSt → DkSt × Int) (hs : w.cell? ⟨c, 0, none⟩ = some (funcV f)) (K : Nat → Prop) (hf : DkStep p b w K f g)
    (hqp : q ≠ p) (hqb : q ≠ b) (hrp : r ≠ p) (hrb : r ≠ b) :
    Calls Tryz.prog 91 #[.pointer (some ⟨c, 0, none⟩), .pointer (some ⟨q, 0, none⟩), .pointer (some ⟨r, 0, none⟩)] w fun e w' => OpPost p b (unlessF n.data.toList g st) w e w' := by
  have HC := Lib.hid hc
  have HS := Lib.hid (hf.does st w h (fun _ _ => rfl))
  have he : ∀ (args : Array Value) (w : World), (callFunc f.1 args).run Tryz.prog w = .ok (.enter f.1 args) w := hf.ent
  unfold funcV at hs
  clear hc hf h
  generalize f.1 = fk at *
  generalize f.2.1 = firsts at *
  generalize f.2.2 = caps at *
  go_enter Tryz.func91, Tryz.ntmps91
  go_wp2_with fail
  refine HS.out.mono ?_
  rintro e w1 ⟨rfl, hd, hf⟩
  have HD := Lib.hid hd
  have HF := Lib.hid hf
  by_cases h44 : (g st).2 = 44
  · have H44 := Lib.hid h44
    have hx1 := IsDk.ofD hf HC.out.cq hqp hqb
    have hx2 := IsDk.ofD hf HC.out.cr hrp hrb
    rw [h44]
    clear hd hf h44 hs
    go_wp2_with fail
    refine (dk_delete _ p b _ HD.out n hn).mono ?_
    rintro e w2 ⟨rfl, hd, hf⟩
    have HD2 := Lib.hid hd
    have HF2 := Lib.hid (HF.out.trans hf)
    clear hd hf hx1 hx2
    by_cases h0 : (dkDelete (g st).1 n.data.toList).2 = 0
    · have e1 := Lib.hid (show unlessF n.data.toList g st = ((dkDelete (g st).1 n.data.toList).1, 44) by unfold unlessF; rw [if_pos H44.out, if_neg (by simpa using h0)])
      rw [h0]
      clear h0
      go_wp2
      go_ret
      rw [e1.out]
      exact ⟨rfl, HD2.out, HF2.out⟩
    · have e1 := Lib.hid (show unlessF n.data.toList g st = ((dkDelete (g st).1 n.data.toList).1, (dkDelete (g st).1 n.data.toList).2) by unfold unlessF; rw [if_pos H44.out, if_pos (by simpa using h0)])
      have hne : ((dkDelete (g st).1 n.data.toList).2 == 0) = false := by simpa using h0
      have hnn : ((dkDelete (g st).1 n.data.toList).2 != 0) = true := by simpa using h0
      clear h0
      generalize (dkDelete (g st).1 n.data.toList).2 = E at *
      go_wp2
      go_ret
      rw [e1.out]
      exact ⟨rfl, HD2.out, HF2.out⟩
  · have e1 := Lib.hid (show unlessF n.data.toList g st = ((g st).1, (g st).2) by unfold unlessF; rw [if_neg h44])
    have hne : ((g st).2 == 44) = false := by simpa using h44
    clear hd hf h44 hs
    generalize (g st).2 = E at *
    go_wp2
    go_ret
    rw [e1.out]
    exact ⟨rfl, HD.out, HF.out⟩

theorem box4_below (w : World) (o1 o2 o3 o4 : Obj) : Below w.heap.size w ((((w.alloc o1).alloc o2).alloc o3).alloc o4) := (box3_below w o1 o2 o3).alloc (by simp; omega) _

set_option maxRecDepth 100000 in
set_option maxHeartbeats 1000000 in
theorem unless_any (w : World) (p : Nat) (n : ByteArray) (hn : n.size ≤ maxLen) (hp : p < w.heap.size) (b : Nat) (hb : b < w.heap.size) (f : FnV) (g : DkSt → DkSt × Int) (K : Nat → Prop) (hf : DkStep p b w K f g) :
    Calls Tryz.prog 44 #[.pointer (some ⟨p, 0, none⟩), .string n, .agg #[funcV f]] w fun e w' => ∃ f' K', e = .returned (.agg #[funcV f']) ∧ Below w.heap.size w w' ∧ DkStep p b w' K' f' (unlessF n.data.toList g) ∧ ∀ k, K' k → K k ∨ w.heap.size ≤ k := by
  have hmf : ∀ (fn : Fn) (first cap : Array Value) (w : World), (Instr.makeFunc fn first cap).run Tryz.prog w = .ok (.func fn first cap) w := fun _ _ _ _ => rfl
  have HF := Lib.hid hf
  clear hf
  go_enter Tryz.func44, Tryz.ntmps44
  go_wp2
  refine bodyPost_ret (v := .agg #[.func (.func 91) #[] #[.pointer (some ⟨w.heap.size + 1 + 1, 0, none⟩), .pointer (some ⟨w.heap.size, 0, none⟩), .pointer (some ⟨w.heap.size + 1, 0, none⟩)]]) (by simp [results, Tryz.results44, go_sem]) rfl ?_
  have hc := box3_captN (p := p) (n := n) (v := funcV f) ((Fr.refl (fun _ => False) (((w.alloc (.cells #[.pointer (some ⟨p, 0, none⟩)] 26)).alloc (.cells #[.string n] 9)).alloc (.cells #[funcV f] 88))).alloc (.cells #[.func (.func 91) #[] #[.pointer (some ⟨w.heap.size + 1 + 1, 0, none⟩), .pointer (some ⟨w.heap.size, 0, none⟩), .pointer (some ⟨w.heap.size + 1, 0, none⟩)]] 88))
  have hbl := box4_below w (.cells #[.pointer (some ⟨p, 0, none⟩)] 26) (.cells #[.string n] 9) (.cells #[funcV f] 88) (.cells #[.func (.func 91) #[] #[.pointer (some ⟨w.heap.size + 1 + 1, 0, none⟩), .pointer (some ⟨w.heap.size, 0, none⟩), .pointer (some ⟨w.heap.size + 1, 0, none⟩)]] 88)
  exact ⟨(_, _, _), fun k => K k ∨ k = w.heap.size ∨ k = w.heap.size + 1 ∨ k = w.heap.size + 2, rfl, hbl, ⟨enters_of Tryz.func91 (by kernel_rfl) rfl, fun k hk => by
      rcases hk with hk | hk
      · exact ⟨Nat.lt_of_lt_of_le (HF.out.lt k hk).1 hbl.size, (HF.out.lt k hk).2⟩
      · simp; omega,
    fun st W hd hf => cap_call (unless_act W _ _ _ p b st n ⟨cell_same (hf _ (.inr (.inl rfl))) hc.1.cq, cell_same (hf _ (.inr (.inr (.inl rfl)))) hc.1.cr⟩ hd hn f g (cell_same (hf _ (.inr (.inr (.inr rfl)))) hc.2) K ⟨HF.out.ent, fun k hk => ⟨by
        have h1 := (HF.out.lt k hk).1
        have e1 := (hf k (.inl hk)).trans (hbl.block k h1)
        rw [Array.getElem?_eq_getElem h1] at e1
        exact lt_of_block e1, (HF.out.lt k hk).2⟩, fun st W' hd' h2 => HF.out.does st W' hd' fun k hk => ((h2 k hk).trans (hf k (.inl hk))).trans (hbl.block k (HF.out.lt k hk).1)⟩ (by omega) (by omega) (by omega) (by omega))⟩, fun k hk => by
      rcases hk with hk | hk
      · exact .inl hk
      · exact .inr (by omega)⟩
end Go.Proofs.YtcdjckdbcffgdaaGreatDoor

/- The steps that make a segment's file: the walk of begin. -/
namespace Go.Proofs.YtcdjckdbcffgdaaGreatDoor
open Go.RowKit

theorem OpPost.zero {p b : Nat} {r : DkSt × Int} {w w' : World} (h : IsDk w' p b r.1) (hf : DFr p b w w') : OpPost p b r w (.returned (.int .i64 r.2)) w' := ⟨rfl, h, hf⟩

set_option maxHeartbeats 400000 in
theorem begin_1 (w : World) (q r p b : Nat) (st : DkSt) (n : ByteArray) (hc : Capt w q r p n) (h : IsDk w p b st) (hn : n.size ≤ maxLen) :
    Calls Tryz.prog 88 #[.pointer (some ⟨q, 0, none⟩), .pointer (some ⟨r, 0, none⟩)] w fun e w' => OpPost p b (dkCreate st n.data.toList) w e w' := by
  have H := Lib.hid h
  have hx1 := hc.cq
  have hx2 := hc.cr
  clear hc h
  go_enter Tryz.func88, Tryz.ntmps88
  go_wp2_with fail
  refine (dk_create _ p b st H.out n hn).mono ?_
  rintro e w1 ⟨rfl, hd, hf⟩
  have HD := Lib.hid hd
  have HF := Lib.hid hf
  clear hd hf hx1 hx2
  go_wp2
  go_ret
  exact ⟨rfl, HD.out, HF.out⟩

set_option maxHeartbeats 400000 in
theorem begin_3 (w : World) (q r p b : Nat) (st : DkSt) (n : ByteArray) (hc : Capt w q r p n) (h : IsDk w p b st) (hn : n.size ≤ maxLen) :
    Calls Tryz.prog 90 #[.pointer (some ⟨q, 0, none⟩), .pointer (some ⟨r, 0, none⟩)] w fun e w' => OpPost p b (dkSync st n.data.toList) w e w' := by
  have H := Lib.hid h
  have hx1 := hc.cq
  have hx2 := hc.cr
  clear hc h
  go_enter Tryz.func90, Tryz.ntmps90
  go_wp2_with fail
  refine (dk_sync _ p b st H.out n hn).mono ?_
  rintro e w1 ⟨rfl, hd, hf⟩
  have HD := Lib.hid hd
  have HF := Lib.hid hf
  clear hd hf hx1 hx2
  go_wp2
  go_ret
  exact ⟨rfl, HD.out, HF.out⟩

set_option maxHeartbeats 400000 in
theorem begin_2 (w : World) (q r s p b : Nat) (st : DkSt) (n x : ByteArray) (hc : Capt w q r p n) (hs : w.cell? ⟨s, 0, none⟩ = some (.string x)) (h : IsDk w p b st) (hn : n.size ≤ maxLen) (hx : x.size ≤ 140737488355328) :
    Calls Tryz.prog 89 #[.pointer (some ⟨q, 0, none⟩), .pointer (some ⟨r, 0, none⟩), .pointer (some ⟨s, 0, none⟩)] w fun e w' => OpPost p b (dkAppend st n.data.toList x.data.toList) w e w' := by
  have H := Lib.hid h
  have hx1 := hc.cq
  have hx2 := hc.cr
  clear hc h
  go_enter Tryz.func89, Tryz.ntmps89
  go_wp2_with fail
  refine (dk_append _ p b st H.out n x hn hx).mono ?_
  rintro e w1 ⟨rfl, hd, hf⟩
  have HD := Lib.hid hd
  have HF := Lib.hid hf
  clear hd hf hx1 hx2
  go_wp2
  go_ret
  exact ⟨rfl, HD.out, HF.out⟩

/-- Closures, each with what it does. -/
abbrev Steps := List (FnV × (DkSt → DkSt × Int))
def Steps.Do (p b : Nat) (W0 : World) (K : Nat → Prop) (l : Steps) : Prop := ∀ x ∈ l, DkStep p b W0 K x.1 x.2
def Steps.cells (l : Steps) : List Value := l.map fun x => funcV x.1
def Steps.acts (l : Steps) : List (DkSt → DkSt × Int) := l.map (·.2)
theorem Steps.Do.pure {p b : Nat} {W0 W1 : World} {K : Nat → Prop} {l : Steps} (h : l.Do p b W0 K) (hb : Below W0.heap.size W0 W1) : l.Do p b W1 K := fun x hx => (h x hx).pure hb
theorem Steps.Do.keep {p b : Nat} {W0 W1 : World} {K : Nat → Prop} {l : Steps} (h : l.Do p b W0 K) (hs : W0.heap.size ≤ W1.heap.size) (h1 : ∀ k, K k → W1.heap[k]? = W0.heap[k]?) : l.Do p b W1 K := fun x hx => (h x hx).keep hs h1
theorem Steps.Do.wider {p b : Nat} {W0 : World} {K K2 : Nat → Prop} {l : Steps} (h : l.Do p b W0 K) (hk : ∀ k, K k → K2 k) (h2 : ∀ k, K2 k → k < W0.heap.size ∧ k ≠ p ∧ k ≠ b) : l.Do p b W0 K2 := fun x hx => (h x hx).wider hk h2
theorem Steps.Do.append {p b : Nat} {W0 : World} {K : Nat → Prop} {l m : Steps} (h : l.Do p b W0 K) (h2 : m.Do p b W0 K) : Steps.Do p b W0 K (l ++ m) := fun x hx => (List.mem_append.1 hx).elim (h x) (h2 x)
/-- Steps lie in a slice. -/
def StepsAt (w : World) (v : Value) (l : Steps) : Prop := ∃ g c, v = .slice (some ⟨g, 0, none⟩) l.length c ∧ ∀ j u, l.cells[j]? = some u → w.cell? ((⟨g, 0, none⟩ : Addr).add j) = some u

set_option maxRecDepth 100000 in
set_option maxHeartbeats 1000000 in
theorem begin_any (w : World) (p : Nat) (n x : ByteArray) (hn : n.size ≤ maxLen) (hx : x.size ≤ 140737488355328) (hp : p < w.heap.size) (b : Nat) (hb : b < w.heap.size) :
    Calls Tryz.prog 43 #[.pointer (some ⟨p, 0, none⟩), .string n, .string x] w fun e w' => ∃ (v : Value) (l : Steps) (K : Nat → Prop), e = .returned v ∧ StepsAt w' v l ∧ l.length = 3 ∧ l.acts = beginF n.data.toList x.data.toList ∧ l.Do p b w' K ∧ (∀ k, K k → w.heap.size ≤ k ∧ k < w'.heap.size ∧ k ≠ p ∧ k ≠ b) ∧ Below w.heap.size w w' := by
  have hmf : ∀ (fn : Fn) (first cap : Array Value) (w : World), (Instr.makeFunc fn first cap).run Tryz.prog w = .ok (.func fn first cap) w := fun _ _ _ _ => rfl
  have HC := Lib.hid (box3_captN (p := p) (n := n) (v := .string x) (Fr.refl (fun _ => False) (((w.alloc (.cells #[.pointer (some ⟨p, 0, none⟩)] 26)).alloc (.cells #[.string n] 9)).alloc (.cells #[.string x] 9))))
  have HB := Lib.hid (box3_below w (.cells #[.pointer (some ⟨p, 0, none⟩)] 26) (.cells #[.string n] 9) (.cells #[.string x] 9))
  go_enter Tryz.func43, Tryz.ntmps43
  go_wp2_with fail
  refine (unless_any _ p n hn (by simp; omega) b (by simp; omega) (89, #[], #[.pointer (some ⟨w.heap.size, 0, none⟩), .pointer (some ⟨w.heap.size + 1, 0, none⟩), .pointer (some ⟨w.heap.size + 1 + 1, 0, none⟩)]) (fun st => dkAppend st n.data.toList x.data.toList) (fun k => k = w.heap.size ∨ k = w.heap.size + 1 ∨ k = w.heap.size + 2)
    ⟨enters_of Tryz.func89 (by kernel_rfl) rfl, fun k hk => by simp; omega, fun st W hd hf => cap_call (begin_2 W _ _ _ p b st n x ⟨cell_same (hf _ (.inl rfl)) HC.out.1.cq, cell_same (hf _ (.inr (.inl rfl))) HC.out.1.cr⟩ (cell_same (hf _ (.inr (.inr rfl))) HC.out.2) hd hn hx)⟩).mono ?_
  rintro e w2 ⟨f', K', rfl, hb2, hdo, hK'⟩
  have HD := Lib.hid hdo
  have hs2 := hb2.size
  simp at hs2
  have HC2 := Lib.hid (HC.out.1.fr (Fr.pure (S := fun _ => False) hb2) (fun h => h) (fun h => h))
  have HB2 := Lib.hid (HB.out.trans (hb2.mono (by simp; omega)))
  clear hdo hb2
  unfold funcV
  go_wp2
  go_ret
  have hbn := (Below.refl w2.heap.size w2).alloc (Nat.le_refl _) (.cells #[.func (.func 88) #[] #[.pointer (some ⟨w.heap.size, 0, none⟩), .pointer (some ⟨w.heap.size + 1, 0, none⟩)], .func (.func f'.1) f'.2.1 f'.2.2, .func (.func 90) #[] #[.pointer (some ⟨w.heap.size, 0, none⟩), .pointer (some ⟨w.heap.size + 1, 0, none⟩)]] 88)
  have hsn : (w2.alloc (.cells #[.func (.func 88) #[] #[.pointer (some ⟨w.heap.size, 0, none⟩), .pointer (some ⟨w.heap.size + 1, 0, none⟩)], .func (.func f'.1) f'.2.1 f'.2.2, .func (.func 90) #[] #[.pointer (some ⟨w.heap.size, 0, none⟩), .pointer (some ⟨w.heap.size + 1, 0, none⟩)]] 88)).heap.size = w2.heap.size + 1 := by simp
  have hlt : ∀ k, (K' k ∨ k = w.heap.size ∨ k = w.heap.size + 1) → w.heap.size ≤ k ∧ k < (w2.alloc (.cells #[.func (.func 88) #[] #[.pointer (some ⟨w.heap.size, 0, none⟩), .pointer (some ⟨w.heap.size + 1, 0, none⟩)], .func (.func f'.1) f'.2.1 f'.2.2, .func (.func 90) #[] #[.pointer (some ⟨w.heap.size, 0, none⟩), .pointer (some ⟨w.heap.size + 1, 0, none⟩)]] 88)).heap.size ∧ k ≠ p ∧ k ≠ b := by
    intro k hk
    rw [hsn]
    rcases hk with hk | hk
    · have h1 := hK' k hk
      have h2 := HD.out.lt k hk
      simp at h1
      omega
    · omega
  refine ⟨_, [((88, #[], #[.pointer (some ⟨w.heap.size, 0, none⟩), .pointer (some ⟨w.heap.size + 1, 0, none⟩)]), fun st => dkCreate st n.data.toList), (f', unlessF n.data.toList (fun st => dkAppend st n.data.toList x.data.toList)), ((90, #[], #[.pointer (some ⟨w.heap.size, 0, none⟩), .pointer (some ⟨w.heap.size + 1, 0, none⟩)]), fun st => dkSync st n.data.toList)], fun k => K' k ∨ k = w.heap.size ∨ k = w.heap.size + 1, rfl, ⟨_, _, rfl, cells_new rfl rfl⟩, rfl, rfl, ?_, hlt, HB2.out.trans (hbn.mono (by omega))⟩
  have hcap := HC2.out.fr (Fr.pure (S := fun _ => False) hbn) (fun h => h) (fun h => h)
  intro y hy
  simp only [List.mem_cons, List.not_mem_nil, or_false] at hy
  rcases hy with rfl | rfl | rfl
  · exact ⟨enters_of Tryz.func88 (by kernel_rfl) rfl, fun k hk => (hlt k hk).2, fun st W hd hf => cap_call (begin_1 W _ _ p b st n ⟨cell_same (hf _ (.inr (.inl rfl))) hcap.cq, cell_same (hf _ (.inr (.inr rfl))) hcap.cr⟩ hd hn)⟩
  · exact (HD.out.pure hbn).wider (fun k hk => .inl hk) fun k hk => (hlt k hk).2
  · exact ⟨enters_of Tryz.func90 (by kernel_rfl) rfl, fun k hk => (hlt k hk).2, fun st W hd hf => cap_call (begin_3 W _ _ p b st n ⟨cell_same (hf _ (.inr (.inl rfl))) hcap.cq, cell_same (hf _ (.inr (.inr rfl))) hcap.cr⟩ hd hn)⟩
end Go.Proofs.YtcdjckdbcffgdaaGreatDoor

/- Init's own step; a row of steps. -/
namespace Go.Proofs.YtcdjckdbcffgdaaGreatDoor
open Go.RowKit

set_option maxHeartbeats 400000 in
theorem init_act (w : World) (q c p b : Nat) (st : DkSt) (g : Int) (sv : Value) (l : Segs) (hq : w.cell? ⟨q, 0, none⟩ = some (.pointer (some ⟨p, 0, none⟩))) (h0 : w.cell? ⟨c, 0, none⟩ = some (.int .i64 g)) (h1 : w.cell? ⟨c, 1, none⟩ = some sv) (hs : SegsAt w sv l) (hl : l.length ≤ 1099511627776) (h : IsDk w p b st) :
    Calls Tryz.prog 45 #[.pointer (some ⟨q, 0, none⟩), .pointer (some ⟨c, 0, none⟩)] w fun e w' => OpPost p b (dkSwap st g l) w e w' := by
  have H := Lib.hid h
  have HS := Lib.hid hs
  obtain ⟨a, cc, rfl⟩ := hs.shape
  clear hs h
  go_enter Tryz.func45, Tryz.ntmps45
  go_wp2_with fail
  refine (swap_any _ p b st H.out g _ l HS.out hl).mono ?_
  rintro e w1 ⟨rfl, hd, hf⟩
  have HD := Lib.hid hd
  have HF := Lib.hid hf
  clear hd hf hq h0 h1
  go_wp2
  go_ret
  exact ⟨rfl, HD.out, HF.out⟩

theorem SegsAt.same {w w' : World} {sv : Value} {l : Segs} (h : SegsAt w sv l) (hs : ∀ k, sv.ownBlock = some k → w'.heap[k]? = w.heap[k]?) : SegsAt w' sv l := by
  obtain ⟨a, c, rfl, h | ⟨b, o, rfl, h⟩⟩ := h
  · exact ⟨a, c, rfl, .inl h⟩
  · refine ⟨_, c, rfl, .inr ⟨b, o, rfl, fun i hi => ?_⟩⟩
    obtain ⟨h1, h2⟩ := h i hi
    exact ⟨cell_same (hs b rfl) h1, cell_same (hs b rfl) h2⟩
/-- The manifest's step, as a closure. -/
theorem init_step (w : World) (q c p b : Nat) (g : Int) (sv : Value) (l : Segs) (hq : w.cell? ⟨q, 0, none⟩ = some (.pointer (some ⟨p, 0, none⟩))) (h0 : w.cell? ⟨c, 0, none⟩ = some (.int .i64 g)) (h1 : w.cell? ⟨c, 1, none⟩ = some sv) (hs : SegsAt w sv l) (hl : l.length ≤ 1099511627776)
    (K : Nat → Prop) (hK : ∀ k, K k → k < w.heap.size ∧ k ≠ p ∧ k ≠ b) (kq : K q) (kc : K c) (ksv : ∀ k, sv.ownBlock = some k → K k) :
    DkStep p b w K (45, #[], #[.pointer (some ⟨q, 0, none⟩), .pointer (some ⟨c, 0, none⟩)]) (fun st => dkSwap st g l) :=
  ⟨enters_of Tryz.func45 (by kernel_rfl) rfl, hK, fun st W hd hf => cap_call (init_act W q c p b st g sv l (cell_same (hf _ kq) hq) (cell_same (hf _ kc) h0) (cell_same (hf _ kc) h1) (hs.same fun k hk => hf k (ksv k hk)) hl hd)⟩

/-- A row of steps of its own. -/
def OwnSteps (w : World) (base : Nat) (v : Value) (l : Steps) : Prop := w.ownsRow base 88 1 v l.length l.cells
theorem Steps.cells_append (l m : Steps) : (Steps.cells (l ++ m)) = l.cells ++ m.cells := List.map_append
theorem Steps.acts_append (l m : Steps) : (Steps.acts (l ++ m)) = l.acts ++ m.acts := List.map_append
theorem OwnSteps.at {w : World} {base : Nat} {v : Value} {l : Steps} (h : OwnSteps w base v l) (h0 : 0 < l.length) : ∃ g c, v = .slice (some ⟨g, 0, none⟩) l.length c ∧ base ≤ g ∧ ∀ i (hi : i < l.length), w.cell? ⟨g, 0 + i, none⟩ = some (funcV l[i].1) := by
  obtain ⟨_, ⟨_, h1⟩ | ⟨g, c, cur, rfl, hg, hb, hc1, _, hc3, hc4⟩⟩ := h
  · omega
  · refine ⟨g, c, rfl, hg, fun i hi => ?_⟩
    rw [Nat.zero_add, cell_of_row _ _ _ _ _ _ hb]
    have hh : (cur.toList.take (l.length * 1))[i]? = l.cells[i]? := by rw [hc4]
    unfold Steps.cells at hh
    rw [List.getElem?_take_of_lt (by omega), List.getElem?_map, List.getElem?_eq_getElem hi] at hh
    simpa using hh

/-- seglog.all over a row of steps of a disk. -/
theorem all_steps (w : World) (p b base : Nat) (st : DkSt) (v : Value) (l : Steps) (h0 : 0 < l.length) (hl : l.length ≤ 1000000) (ho : OwnSteps w base v l) (K : Nat → Prop) (hdo : l.Do p b w K) (hd : IsDk w p b st) (hp : p < base) (hb : b < base) :
    Calls Tryz.prog 47 #[v] w fun e w' => OpPost p b (runL l.acts st) w e w' := by
  obtain ⟨g, c, rfl, hg, hrow⟩ := ho.at h0
  have hlen : (l.map (·.1)).length = l.length := List.length_map ..
  have key := all_any (σ := DkSt) (fun _ s W => IsDk W p b s ∧ DFr p b w W) (fun s W => IsDk W p b s ∧ DFr p b w W) (l.map (·.1)) l.acts g 0 c (by simp [Steps.acts]) (by omega)
    (fun i h => by rw [List.getElem_map]; exact (hdo _ (List.getElem_mem _)).ent)
    (fun i h s W hR => by rw [List.getElem_map]; exact IsDk.ofD hR.2 (hrow i (by omega)) (by omega) (by omega))
    (fun i s W W' hR hb => ⟨hR.1.pure hb, hR.2.trans (Fr.pure hb)⟩)
    (fun i h h' s W hR => by
      have hx := (hdo _ (List.getElem_mem (by omega : i < l.length))).does s W hR.1 (fun k hk => hR.2.block k ((hdo _ (List.getElem_mem (by omega : i < l.length))).lt k hk).1 (fun e => e.elim ((hdo _ (List.getElem_mem (by omega : i < l.length))).lt k hk).2.1 ((hdo _ (List.getElem_mem (by omega : i < l.length))).lt k hk).2.2))
      have e1 : (Steps.acts l)[i] = (l[i]'(by omega)).2 := by simp [Steps.acts]
      rw [List.getElem_map, e1]
      exact hx.mono fun e w' ⟨a1, a2, a3⟩ => ⟨a1, fun _ => ⟨a2, hR.2.trans a3⟩, fun _ => ⟨a2, hR.2.trans a3⟩⟩)
    w st ⟨hd, Fr.refl _ _⟩
  rw [hlen] at key
  refine key.mono ?_
  rintro e w' ⟨rfl, k1, k2⟩
  by_cases hz : (runL l.acts st).2 = 0
  · exact ⟨rfl, (k1 hz).1, (k1 hz).2⟩
  · exact ⟨rfl, (k2 hz).1, (k2 hz).2⟩
end Go.Proofs.YtcdjckdbcffgdaaGreatDoor
