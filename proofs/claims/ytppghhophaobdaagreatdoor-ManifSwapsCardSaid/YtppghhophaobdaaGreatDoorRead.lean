/- The walks of manif.Read. -/
import Derived.Test.YtppghhophaobdaaGreatDoorMake
import Derived.Deep.RegionHeld3
import Derived.Deep.AppendLies
import Derived.StillTactics
namespace Go.Proofs.YtppghhophaobdaaGreatDoor
open Go.RowKit

/-- A number of 64 bits, read as one with a sign. -/
def i64 (n : Nat) : Int := wrap64 (n : Int)

def rdEnts (s : List UInt8) : Nat → RdSt → Segs × RdSt
  | 0, st => ([], st)
  | n + 1, st =>
    let r := rdEnts s n ((st.fixed s 8).2.fixed s 8).2
    ((i64 (st.fixed s 8).1, i64 ((st.fixed s 8).2.fixed s 8).1) :: r.1, r.2)

def st0 : RdSt := ⟨0, 0, 0⟩
/-- What is read of the bytes that were sealed: generation, segments, and the reader's state behind them. -/
def rdAll (t : List UInt8) : Int × Segs × RdSt :=
  let a := (st0.take t 4).2.2.fixed t 8
  let b := a.2.fixed t 2
  let r := rdEnts t b.1 b.2
  (i64 a.1, r.1, r.2)
/-- The manifest of bytes that were sealed. -/
def parseMan (t : List UInt8) : Option (Int × Segs) :=
  if (st0.take t 4).1 ≠ man1 then none
  else if (rdAll t).2.2.ended t.length ≠ 0 ∨ mayB (rdAll t).1 (rdAll t).2.1 = false then none
  else some ((rdAll t).1, (rdAll t).2.1)

theorem rdEnts_length (s : List UInt8) (n : Nat) (st : RdSt) : (rdEnts s n st).1.length = n := by
  induction n generalizing st with
  | zero => rfl
  | succ n ih => simp [rdEnts, ih]

def noMan : Value := .agg #[.int .i64 0, .slice none 0 0]

set_option maxHeartbeats 1000000 in
theorem read_short (s : ByteArray) (w : World) (hs : s.size < 4) :
    Calls Tryz.prog 53 #[.string s] w fun e w' => e = .returned (.tuple #[noMan, .int .i64 8]) ∧ Below w.heap.size w w' := by
  go_enter Tryz.func53, Tryz.ntmps53
  go_wp2_with fail
  refine (open_short s _ hs).mono ?_
  rintro e w1 ⟨rfl, rfl⟩
  go_wp2
  refine bodyPost_ret (v := .tuple #[noMan, .int .i64 8]) (by simp [results, Tryz.results53, go_sem]; rfl) rfl ⟨rfl, ?_⟩
  exact (Below.refl _ _).alloc (Nat.le_refl _) _

set_option maxHeartbeats 1000000 in
theorem read_sum (s : ByteArray) (w : World) (h4 : 4 ≤ s.size) (hs : s.size ≤ maxLen) (h : ¬ Sealed s.data.toList) :
    Calls Tryz.prog 53 #[.string s] w fun e w' => e = .returned (.tuple #[noMan, .int .i64 42]) ∧ Below w.heap.size w w' := by
  have H := Lib.hid h
  clear h
  go_enter Tryz.func53, Tryz.ntmps53
  go_wp2_with fail
  refine (open_wrong s _ h4 hs H.out).mono ?_
  rintro e w1 ⟨rfl, hb1⟩
  have hsz := hb1.size
  simp at hsz
  have hz : ∀ j : Nat, w1.cell? ⟨w.heap.size, j, none⟩ = (w.alloc (.cells #[.int .i64 0, .slice none 0 0] 40)).cell? ⟨w.heap.size, j, none⟩ := fun j => hb1.cell (by simp)
  have hz0 : w1.cell? ⟨w.heap.size, 0, none⟩ = some (.int .i64 0) := by rw [hz, World.cell?_alloc_at _ _ _ _ rfl]; rfl
  have hz1 : w1.cell? ⟨w.heap.size, 1, none⟩ = some (.slice none 0 0) := by rw [hz, World.cell?_alloc_at _ _ _ _ rfl]; rfl
  have hf : ∀ j : Nat, w1.frozen? ⟨w.heap.size, j, none⟩ = false := fun j => by rw [hb1.frozen (by simp), World.frozen?_alloc_at _ _ _ _ rfl]
  clear hz
  go_wp2
  refine bodyPost_ret (v := .tuple #[noMan, .int .i64 42]) (by simp [results, Tryz.results53, go_sem, hz0, hz1]; rfl) rfl ⟨rfl, ?_⟩
  exact ((below_box (hb1.mono (by simp))).setCell (p := ⟨w.heap.size, 0, none⟩) (Nat.le_refl _) _).setCell (p := ⟨w.heap.size, 1, none⟩) (Nat.le_refl _) _

/-- Segments as cells. -/
def segCells (l : Segs) : List Value := l.flatMap fun x => [.int .i64 x.1, .int .i64 x.2]
theorem segCells_length (l : Segs) : (segCells l).length = l.length * 2 := by
  induction l with
  | nil => rfl
  | cons x l ih => simp only [segCells, List.flatMap_cons, List.length_append, List.length_cons, List.length_nil] at ih ⊢; omega
theorem segCells_get (l : Segs) (i : Nat) (h : i < l.length) : (segCells l)[i * 2]? = some (.int .i64 l[i].1) ∧ (segCells l)[i * 2 + 1]? = some (.int .i64 l[i].2) := by
  induction l generalizing i with
  | nil => simp at h
  | cons x l ih =>
    rcases i with _ | i
    · simp [segCells]
    · have := ih i (by simpa using h)
      simp only [segCells, List.flatMap_cons, List.getElem_cons_succ] at this ⊢
      rw [show (i + 1) * 2 = i * 2 + 1 + 1 from by omega]
      simpa using this
theorem segCells_snoc (l : Segs) (x y : Int) : segCells (l ++ [(x, y)]) = segCells l ++ [.int .i64 x, .int .i64 y] := by simp [segCells]

/-- A slice that the call owns, and that holds segments. -/
def OwnSegs (w : World) (v : Value) (l : Segs) : Prop := w.ownsRow 0 98 2 v l.length (segCells l)
theorem OwnSegs.at {w : World} {v : Value} {l : Segs} (h : OwnSegs w v l) : SegsAt w v l := by
  rcases h.2 with ⟨hv, hn⟩ | ⟨g, cap, cur, hv, hh⟩
  · exact ⟨none, 0, by rw [hv, hn], .inl (List.eq_nil_of_length_eq_zero hn)⟩
  · subst hv
    refine ⟨_, cap, rfl, .inr ⟨g, 0, rfl, fun i hi => ?_⟩⟩
    obtain ⟨h1, h2⟩ := segCells_get l i hi
    rw [Nat.zero_add, World.ownsRow.cellAt h (i * 2) (by omega), World.ownsRow.cellAt h (i * 2 + 1) (by omega)]
    exact ⟨h1, h2⟩

theorem Tryz.infoEntry : (Tryz.prog.info? 98).map (fun i => (i.zero, i.size, i.bytes)) = some (some (.agg #[.int .i64 0, .int .i64 0]), 2, 16) := by kernel_rfl

/-- The state of Read's loop: R: the result's block, p: the reader's, m: the manifest's. -/
structure RdLoop (wa wr : World) (t : ByteArray) (n : Nat) (sta : RdSt) (p m : Nat) (G : Int) (k : Nat) (acc : Segs) (st : RdSt) (v : Value) : Prop where
  le : k ≤ n
  len : acc.length = k
  ents : (rdEnts t.data.toList n sta).1 = acc ++ (rdEnts t.data.toList (n - k) st).1
  last : (rdEnts t.data.toList n sta).2 = (rdEnts t.data.toList (n - k) st).2
  rd : IsRd wr p t st
  box : wr.heap[m]? = some (.cells #[.int .i64 G, v] 40 (0, 0))
  own : OwnSegs wr v acc
  fr : Fr (fun i => i = p ∨ i = m) wa wr
  far : ∀ g, v.ownBlock = some g → wa.heap.size ≤ g

theorem rdEnts_step (s : List UInt8) (n k : Nat) (st : RdSt) (hk : k < n) :
    rdEnts s (n - k) st = ((i64 (st.fixed s 8).1, i64 ((st.fixed s 8).2.fixed s 8).1) :: (rdEnts s (n - (k + 1)) ((st.fixed s 8).2.fixed s 8).2).1, (rdEnts s (n - (k + 1)) ((st.fixed s 8).2.fixed s 8).2).2) := by
  rw [show n - k = (n - (k + 1)) + 1 from by omega]; rfl

theorem wrapI (x : Int) : IntKind.i64.wrap x = wrap64 x := by rw [IntKind.wrap_i64]; unfold wrap64; rfl

theorem RdLoop.next {wa wr w6 w7 w8 : World} {t : ByteArray} {n : Nat} {sta : RdSt} {p m : Nat} {G : Int} {k : Nat} {acc : Segs} {st sd se : RdSt} {v v8 : Value} {x y gg : Nat} {o : Obj}
    (h : RdLoop wa wr t n sta p m G k acc st v) (hk : k < n) (hpm : p < m) (hwa : m < wa.heap.size) (hsd : st.fixed t.data.toList 8 = (x, sd)) (hse : sd.fixed t.data.toList 8 = (y, se))
    (hf6 : Fr (fun k => k = p) wr.drew w6) (h7 : IsRd w7 p t se) (hf7 : Fr (fun k => k = p) w6 w7)
    (hown : w8.ownsRow 0 98 2 v8 (acc.length + 1) (segCells acc ++ [.int .i64 (IntKind.i64.wrap (x : Int)), .int .i64 (IntKind.i64.wrap (y : Int))])) (hg : (w7.alloc o).grownBy w8 v.ownBlock)
    (hv8 : v8.ownBlock = some gg) (hat : v.ownBlock = some gg ∨ gg = w7.heap.size + 1) :
    RdLoop wa (w8.setCell ⟨m, 1, none⟩ v8) t n sta p m G (k + 1) (acc ++ [(i64 x, i64 y)]) se v8 := by
  have hml : m < wr.heap.size := lt_of_block h.box
  have hm6 : m < w6.heap.size := Nat.lt_of_lt_of_le hml hf6.size
  have hm7 : m < w7.heap.size := Nat.lt_of_lt_of_le hm6 hf7.size
  have hvm : v.ownBlock ≠ some m := by intro e; have := h.far m e; omega
  have hvp : v.ownBlock ≠ some p := by intro e; have := h.far p e; omega
  have hw7 : wa.heap.size ≤ w7.heap.size := Nat.le_trans h.fr.size (Nat.le_trans hf6.size hf7.size)
  have hfar : wa.heap.size ≤ gg := by
    rcases hat with e | e
    · exact h.far gg e
    · omega
  have hfr7 : Fr (fun i => i = p ∨ i = m) wa w7 := (h.fr.drew.then hf6 (fun _ _ e => .inl e)).then hf7 (fun _ _ e => .inl e)
  have hfr8 : Fr (fun i => i = p ∨ i = m) wa w8 := (hfr7.alloc o).grown hg (fun i hi e => by have := h.far i e; omega)
  have hbox : w8.heap[m]? = some (.cells #[.int .i64 G, v] 40 (0, 0)) := by
    rw [hg.block m (Nat.lt_of_lt_of_le hm7 (by simp)) (fun e => hvm e.symm), Below.heap_alloc _ _ _ hm7]
    exact hf7.heapAt (hf6.heapAt (show wr.drew.heap[m]? = _ from h.box) (by omega)) (by omega)
  have hst := rdEnts_step t.data.toList n k st hk
  rw [hsd] at hst
  rw [hse] at hst
  refine ⟨by omega, by rw [List.length_append, h.len]; rfl, ?_, ?_, ?_, ?_, ?_, hfr8.setCell _ (fun _ => .inr rfl) _, fun b hb => by rw [hv8] at hb; cases hb; exact hfar⟩
  · rw [h.ents, hst]; simp
  · rw [h.last, hst]
  · have h8 : IsRd w8 p t se := ⟨by rw [hg.block p (Nat.lt_of_lt_of_le h7.lt (by simp)) (fun e => hvp e.symm), Below.heap_alloc _ _ _ h7.lt]; exact h7.1, h7.2⟩
    exact h8.kept ((Fr.refl (fun i => i = m) w8).setCell ⟨m, 1, none⟩ (fun _ => rfl) _) (by omega)
  · rw [heap_setCell_same _ _ _ _ _ _ hbox]; rfl
  · have : OwnSegs w8 v8 (acc ++ [(i64 x, i64 y)]) := by
      unfold OwnSegs
      rw [segCells_snoc, List.length_append]
      rw [wrapI, wrapI] at hown
      exact hown
    exact ((Fr.refl (fun i => i = m) w8).setCell ⟨m, 1, none⟩ (fun _ => rfl) _).ownsRow this (fun b hb => by rw [hv8] at hb; cases hb; omega)

theorem rdAll_eq {t : List UInt8} {sa sb sc st : RdSt} {g n : Nat} {acc : Segs} (h1 : (st0.take t 4).2.2 = sa) (h2 : sa.fixed t 8 = (g, sb)) (h3 : sb.fixed t 2 = (n, sc)) (h4 : (rdEnts t n sc).1 = acc) (h5 : (rdEnts t n sc).2 = st) : rdAll t = (i64 g, acc, st) := by
  unfold rdAll
  simp only [h1, h2, h3, h4, h5]
theorem parse_none1 {t : List UInt8} (h : (st0.take t 4).1 ≠ man1) : parseMan t = none := by unfold parseMan; rw [if_pos h]
theorem parse_none2 {t : List UInt8} {g : Int} {acc : Segs} {st : RdSt} (h : rdAll t = (g, acc, st)) (hb : st.ended t.length ≠ 0 ∨ mayB g acc = false) : parseMan t = none := by
  unfold parseMan
  rw [h]
  simp only
  split
  · rfl
  · first
      | rfl
      | rw [if_pos hb]
theorem parse_some {t : List UInt8} {g : Int} {acc : Segs} {st : RdSt} (h0 : (st0.take t 4).1 = man1) (h : rdAll t = (g, acc, st)) (h1 : st.ended t.length = 0) (h2 : mayB g acc = true) : parseMan t = some (g, acc) := by
  unfold parseMan
  rw [h, if_neg (fun hx => hx h0), if_neg (fun hx => hx.elim (fun hx => hx h1) (fun hx => by simp only at hx; rw [h2] at hx; cases hx))]

/-- What Read leaves of bytes that were sealed. -/
def ReadPost (w : World) (t : List UInt8) (e : Ending) (w' : World) : Prop :=
  Below w.heap.size w w' ∧ match parseMan t with
    | none => e = .returned (.tuple #[noMan, .int .i64 4])
    | some (g, l) => ∃ v, OwnSegs w' v l ∧ (∀ b, v.ownBlock = some b → w.heap.size ≤ b) ∧ e = .returned (.tuple #[.agg #[.int .i64 g, v], .int .i64 0])

theorem rd_u64x (w : World) (p : Nat) (s : ByteArray) (st : RdSt) (h : IsRd w p s st) :
    Calls Tryz.prog 125 #[.pointer (some ⟨p, 0, none⟩)] w fun e w' => ∃ (n : Nat) (st' : RdSt), st.fixed s.data.toList 8 = (n, st') ∧ e = .returned (.int .u64 (n : Int)) ∧ IsRd w' p s st' ∧ Fr (fun k => k = p) w w' :=
  (rd_u64 w p s st h).mono fun _ _ ⟨he, h1, h2⟩ => ⟨_, _, rfl, he, h1, h2⟩
theorem rd_u16x (w : World) (p : Nat) (s : ByteArray) (st : RdSt) (h : IsRd w p s st) :
    Calls Tryz.prog 126 #[.pointer (some ⟨p, 0, none⟩)] w fun e w' => ∃ (n : Nat) (st' : RdSt), st.fixed s.data.toList 2 = (n, st') ∧ n < 65536 ∧ e = .returned (.int .u16 (n : Int)) ∧ IsRd w' p s st' ∧ Fr (fun k => k = p) w w' :=
  (rd_u16 w p s st h).mono fun _ _ ⟨he, h1, h2⟩ => ⟨_, _, rfl, val_lt2 (take_len _ _ _), he, h1, h2⟩
theorem rd_rawx (w : World) (p : Nat) (s : ByteArray) (st : RdSt) (h : IsRd w p s st) (n : Nat) (hn : n ≤ 1099511627776) :
    Calls Tryz.prog 124 #[.pointer (some ⟨p, 0, none⟩), .int .i64 (n : Int)] w fun e w' => ∃ (r : ByteArray) (st' : RdSt), r.data.toList = (st.take s.data.toList n).1 ∧ (st.take s.data.toList n).2.2 = st' ∧ e = .returned (.string r) ∧ IsRd w' p s st' ∧ Fr (fun k => k = p) w w' :=
  (rd_raw w p s st h n hn).mono fun _ _ ⟨r, hr, he, h1, h2⟩ => ⟨r, _, hr, rfl, he, h1, h2⟩

set_option maxRecDepth 100000 in
set_option maxHeartbeats 2000000 in
theorem read_any (s : ByteArray) (w : World) (hs : s.size ≤ 1099511627776) (h : Sealed s.data.toList) (P : List UInt8) (hP : P = s.data.toList.take (s.size - 4)) :
    Calls Tryz.prog 53 #[.string s] w fun e w' => ReadPost w P e w' := by
  have H := Lib.hid h
  have HP := Lib.hid hP
  clear h hP
  go_enter Tryz.func53, Tryz.ntmps53
  go_wp2_with fail
  refine (open_sealed s _ (by unfold maxLen; omega) H.out).mono ?_
  rintro e w1 ⟨t, ht, rfl, hb1⟩
  have htl : t.size ≤ 1099511627776 := by rw [size_of_list ht, List.length_take]; omega
  have HT := Lib.hid (ht.trans HP.out.symm)
  clear ht
  have hsz := hb1.size
  simp at hsz
  have hz : w1.heap[w.heap.size]? = some (.cells #[.int .i64 0, .slice none 0 0] 40 (0, 0)) := by rw [hb1.block _ (by simp)]; exact heap_alloc_new _ _
  have HZ1 := Lib.hid hz
  clear hz
  have B1 := Lib.hid (below_box (hb1.mono (by simp)))
  go_wp2_with fail
  refine (rd_new t _ htl).mono ?_
  rintro e w2 ⟨rfl, h2, hb2⟩
  obtain ⟨p, hp⟩ : ∃ p, p = w1.heap.size := ⟨_, rfl⟩
  rw [← hp] at h2 ⊢
  have hpw : w.heap.size < p := by omega
  have HPP := Lib.hid hp
  clear hp
  have H2 := Lib.hid h2
  have B2 := Lib.hid (B1.out.trans (hb2.mono B1.out.size))
  have HZ2 := Lib.hid ((Fr.pure (S := fun _ => False) hb2).heapAt HZ1.out (fun hf => hf))
  go_wp2_with fail
  refine (rd_rawx _ p t st0 H2.out 4 (by omega)).mono ?_
  rintro e w3 ⟨r4, sa, hr4, hsa, rfl, h3, hf3⟩
  have H3 := Lib.hid h3
  have HZ3 := Lib.hid (hf3.heapAt HZ2.out (by omega))
  have B3 := Lib.hid (B2.out.trans (hf3.below (B := w.heap.size) B2.out.size (fun i hi e => by omega)))
  have HR4 := Lib.hid hr4
  have HSA := Lib.hid hsa
  clear h2 h3 hr4 hsa
  by_cases hmag : r4.data.toList = man1
  · have hcmp : (r4.toList == [109, 97, 110, 49]) = true := by rw [ByteArray.toList_eq, hmag]; rfl
    have HMAG := Lib.hid hmag
    clear hmag
    go_wp2_with fail
    refine (rd_u64x _ p t _ H3.out).mono ?_
    rintro e w4 ⟨g, sb, hsb, rfl, h4, hf4⟩
    have H4 := Lib.hid h4
    have HSB := Lib.hid hsb
    have HZ4 := Lib.hid (hf4.heapAt HZ3.out (by omega))
    have B4 := Lib.hid (B3.out.trans (hf4.below (B := w.heap.size) B3.out.size (fun i hi e => by omega)))
    have B4a := Lib.hid (B4.out.alloc B4.out.size (.cells #[.int .i64 (wrap64 (g : Int)), .slice none 0 0] 40))
    have hpl := h4.lt
    clear h4 hsb
    go_wp2_with fail
    obtain ⟨m, hm⟩ : ∃ m, m = w4.heap.size := ⟨_, rfl⟩
    have H4' := Lib.hid (H4.out.kept ((Fr.refl (fun _ => False) w4).alloc (.cells #[.int .i64 (wrap64 (g : Int)), .slice none 0 0] 40)) (fun hf => hf))
    have HZ4' := Lib.hid (((Fr.refl (fun _ => False) w4).alloc (.cells #[.int .i64 (wrap64 (g : Int)), .slice none 0 0] 40)).heapAt HZ4.out (fun hf => hf))
    have HM := Lib.hid (heap_alloc_new w4 (.cells #[.int .i64 (wrap64 (g : Int)), .slice none 0 0] 40))
    rw [← hm] at HM ⊢
    have hmp : p < m := by omega
    clear hm
    generalize (w4.alloc (.cells #[.int .i64 (wrap64 (g : Int)), .slice none 0 0] 40)) = w4a at *
    refine (rd_u16x _ p t _ H4'.out).mono ?_
    rintro e w5 ⟨n, sc, hsc, hn16, rfl, h5, hf5⟩
    have H5 := Lib.hid h5
    have HSC := Lib.hid hsc
    have HZ5 := Lib.hid (hf5.heapAt HZ4'.out (by omega))
    have HM5 := Lib.hid (hf5.heapAt HM.out (by omega))
    have B5 := Lib.hid (B4a.out.trans (hf5.below (B := w.heap.size) B4a.out.size (fun i hi e => by omega)))
    clear h5 hsc
    go_wp2_with fail
    go_loopw [29] (fun i wr => ∃ (k : Nat) (acc : Segs) (st : RdSt) (v : Value), i = .int .u16 (k : Int) ∧ RdLoop w5 wr t n sc p m (wrap64 (g : Int)) k acc st v) (fun i _ => n - (intOf i).toNat)
    case atStart => exact ⟨0, [], sc, .slice none 0 0, rfl, ⟨by omega, rfl, rfl, rfl, H5.out, HM5.out, World.ownsRow_nil _ _ _ _, Fr.refl _ _, by simp [Value.ownBlock]⟩⟩
    case round =>
      obtain ⟨k, acc, st, v, rfl, hL⟩ := hrel
      have HL := Lib.hid hL
      clear hL
      by_cases hlt : k < n
      · have hcm : wr.cell? ⟨m, 1, none⟩ = some v := by rw [cell_of_row _ _ _ _ _ _ HL.out.box]; rfl
        have hfm : wr.frozen? ⟨m, 1, none⟩ = false := frozen_of_row _ _ _ _ _ HL.out.box
        have hml : m < wr.heap.size := lt_of_block HL.out.box
        have hvm : v.ownBlock ≠ some m := by
          intro e; have := HL.out.far m e; have := lt_of_block HM5.out; omega
        have hvp : v.ownBlock ≠ some p := by
          intro e; have := HL.out.far p e; have := lt_of_block HM5.out; omega
        obtain ⟨a0, n0, c0, rfl⟩ := own_shape HL.out.own
        have hown := Lib.hid HL.out.own
        have HBX := Lib.hid HL.out.box
        have HRD := Lib.hid HL.out.rd
        have tok1 : True := trivial
        have tok2 : True := trivial
        obtain ⟨i0, hi, hz0, hz1, hz2⟩ := info_parts Tryz.infoEntry
        have HI := Lib.hid hi
        have HZ0 := Lib.hid hz0
        have HZ1 := Lib.hid hz1
        have HZ2 := Lib.hid hz2
        have hkl : acc.length ≤ 65536 := by have := HL.out.len; omega
        clear hi hz0 hz1 hz2
        go_wp2_with fail
        go_region_law (first
          | (go_simp; go_at_call 125; have _t := tok1; refine (rd_u64x wr.drew p t st HRD.out).mono ?_; rintro e w6 ⟨x, sd, hsd, rfl, h6, hf6⟩; have hcm := hf6.cellAt (show World.cell? wr.drew ⟨m, 1, none⟩ = _ from hcm) (by omega); have hs6 : m < w6.heap.size := Nat.lt_of_lt_of_le hml hf6.size; have HBX6 := Lib.hid (hf6.heapAt (show wr.drew.heap[m]? = _ from HBX.out) (by omega)); clear tok1)
          | (go_simp; go_at_call 125; have _t := tok2; refine (rd_u64x _ p t sd h6).mono ?_; rintro e w7 ⟨y, se, hse, rfl, h7, hf7⟩; have hcm := hf7.cellAt hcm (by omega); have hs7 : m < w7.heap.size := Nat.lt_of_lt_of_le hs6 hf7.size; have HBX7 := Lib.hid (hf7.heapAt HBX6.out (by omega)); clear tok2)
          | (refine step_append_lies _ (by rfl) _ _ _ (by rfl) 0 98 i0 _ 2 16 Tryz.underlying38 HI.out HZ0.out HZ1.out HZ2.out rfl (by omega) _ acc.length _ (by rfl) (((hf7.ownsRow (hf6.ownsRow (World.ownsRow.drew hown.out) (fun g e h => hvp (by rw [e, h]))) (fun g e h => hvp (by rw [e, h]))).alloc _))
              ⟨w7.heap.size, 0, none⟩ 1 1 [.int .i64 (IntKind.i64.wrap (x : Int)), .int .i64 (IntKind.i64.wrap (y : Int))] (by rfl) (by rfl) (cells_new rfl rfl) (by simp [Value.oneCell'])
              (by omega) (by unfold maxLen; omega) (by omega) (Nat.zero_le _) (w7.heap.size + 1) (by simp) ?_; intro gg cap w8 hown8 hgrow8 hat8 hlt8; have HBX8 := Lib.hid ((hgrow8.block m (Nat.lt_of_lt_of_le hs7 (by simp)) (fun e => hvm e.symm)).trans ((Below.heap_alloc _ _ _ hs7).trans HBX7.out)); have hc8 : w8.cell? ⟨m, 1, none⟩ = some (.slice a0 n0 c0) := (cell_of_row w8 m 1 _ _ _ HBX8.out).trans rfl; have hf8 := frozen_of_row w8 m 1 _ _ HBX8.out))
        all_goals go_wp2
        all_goals
          go_roundw
          case rel => exact ⟨k + 1, _, se, _, by go_num, HL.out.next hlt hmp (lt_of_block HM5.out) hsd hse hf6 h7 hf7 hown8 hgrow8 rfl hat8⟩
          case measure => simp [intOf]; omega
      · have hkn : k = n := by have := HL.out.le; omega
        have hnn : n - k = 0 := by omega
        have HEN := Lib.hid HL.out.ents
        have HLA := Lib.hid HL.out.last
        have HALL := Lib.hid (show rdAll t.data.toList = (i64 g, acc, st) from rdAll_eq HSA.out HSB.out HSC.out (by rw [HEN.out, hnn]; simp [rdEnts]) (by rw [HLA.out, hnn]; rfl))
        have HZR := Lib.hid (HL.out.fr.heapAt HZ5.out (by omega))
        have hr0 : wr.cell? ⟨w.heap.size, 0, none⟩ = some (.int .i64 0) := (cell_of_row _ _ _ _ _ _ HZR.out).trans rfl
        have hr1 : wr.cell? ⟨w.heap.size, 1, none⟩ = some (.slice none 0 0) := (cell_of_row _ _ _ _ _ _ HZR.out).trans rfl
        have hrf0 : wr.frozen? ⟨w.heap.size, 0, none⟩ = false := frozen_of_row _ _ _ _ _ HZR.out
        have hrf1 : wr.frozen? ⟨w.heap.size, 1, none⟩ = false := frozen_of_row _ _ _ _ _ HZR.out
        have hm0 : wr.cell? ⟨m, 0, none⟩ = some (.int .i64 (wrap64 (g : Int))) := (cell_of_row _ _ _ _ _ _ HL.out.box).trans rfl
        have hm1 : wr.cell? ⟨m, 1, none⟩ = some v := (cell_of_row _ _ _ _ _ _ HL.out.box).trans rfl
        have hrl : w.heap.size < wr.heap.size := lt_of_block HZR.out
        have HBEL := Lib.hid (B5.out.trans (HL.out.fr.below (B := w.heap.size) B5.out.size (fun i hi e => by omega)))
        obtain ⟨a0, n0, c0, rfl⟩ := own_shape HL.out.own
        clear hkn hnn
        by_cases hend : st.ended t.size = 0
        · go_wp2_with fail
          refine (rd_end _ p t st HL.out.rd).mono ?_
          rintro e w6 ⟨rfl, nq, rfl⟩
          rw [hend]
          have HEND := Lib.hid hend
          clear hend
          go_wp2_with fail
          refine (may_any (wr.drewN nq) (wrap64 (g : Int)) _ acc (show SegsAt wr _ acc from HL.out.own.at) (by have := HL.out.len; have := HL.out.le; omega)).mono ?_
          rintro e w7 ⟨rfl, hb7⟩
          have hq : ∀ b j, b < wr.heap.size → w7.cell? ⟨b, j, none⟩ = wr.cell? ⟨b, j, none⟩ := fun b j h => hb7.cell (p := ⟨b, j, none⟩) h
          have hqf : ∀ b j, b < wr.heap.size → w7.frozen? ⟨b, j, none⟩ = wr.frozen? ⟨b, j, none⟩ := fun b j h => hb7.frozen (p := ⟨b, j, none⟩) h
          have hml : m < wr.heap.size := lt_of_block HL.out.box
          rw [← hq _ _ hrl] at hr0 hr1
          rw [← hqf _ _ hrl] at hrf0 hrf1
          rw [← hq _ _ hml] at hm0 hm1
          clear hq hqf
          cases hmay : mayB (wrap64 (g : Int)) acc
          · have HMAY := Lib.hid hmay
            clear hmay
            go_wp2
            refine bodyPost_ret (v := .tuple #[noMan, .int .i64 4]) (by simp [results, Tryz.results53, go_sem, hr0, hr1]; rfl) rfl ⟨?_, ?_⟩
            · exact (((HBEL.out.trans ((show Below wr.heap.size wr w7 from ⟨hb7.os, hb7.tape, hb7.output, hb7.size, hb7.block⟩).mono HBEL.out.size)).setCell (p := ⟨w.heap.size, 0, none⟩) (Nat.le_refl _) _).setCell (p := ⟨w.heap.size, 1, none⟩) (Nat.le_refl _) _)
            · rw [parse_none2 (show rdAll P = _ from HT.out ▸ HALL.out) (.inr HMAY.out)]
          · have HMAY := Lib.hid hmay
            clear hmay
            go_wp2
            have HOWN : OwnSegs ((w7.setCell ⟨w.heap.size, 0, none⟩ (.int .i64 (wrap64 (g : Int)))).setCell ⟨w.heap.size, 1, none⟩ (.slice a0 n0 c0)) (.slice a0 n0 c0) acc := by
              have h7 : OwnSegs w7 (.slice a0 n0 c0) acc := (Fr.pure (S := fun _ => False) (show Below wr.heap.size wr w7 from ⟨hb7.os, hb7.tape, hb7.output, hb7.size, hb7.block⟩)).ownsRow HL.out.own (fun _ _ hf => hf)
              exact (((Fr.refl (fun i => i = w.heap.size) w7).setCell ⟨w.heap.size, 0, none⟩ (fun _ => rfl) _).setCell ⟨w.heap.size, 1, none⟩ (fun _ => rfl) _).ownsRow h7 (fun b hb e => by have := HL.out.far b hb; have := B5.out.size; have := lt_of_block HZ5.out; omega)
            refine bodyPost_ret (v := .tuple #[.agg #[.int .i64 (wrap64 (g : Int)), .slice a0 n0 c0], .int .i64 0]) (by simp [results, Tryz.results53, go_sem, hr0, hr1]) rfl ⟨?_, ?_⟩
            · exact (((HBEL.out.trans ((show Below wr.heap.size wr w7 from ⟨hb7.os, hb7.tape, hb7.output, hb7.size, hb7.block⟩).mono HBEL.out.size)).setCell (p := ⟨w.heap.size, 0, none⟩) (Nat.le_refl _) _).setCell (p := ⟨w.heap.size, 1, none⟩) (Nat.le_refl _) _)
            · rw [parse_some (show (st0.take P 4).1 = man1 from by rw [← HT.out, ← HR4.out]; exact HMAG.out) (show rdAll P = _ from HT.out ▸ HALL.out) (by rw [← HT.out, size_toList]; exact HEND.out) HMAY.out]
              exact ⟨_, HOWN, fun b hb => Nat.le_trans B5.out.size (HL.out.far b hb), rfl⟩
        · have hendb : (st.ended t.size == 0) = false := by simpa using hend
          have HEND := Lib.hid hend
          clear hend
          go_wp2_with fail
          refine (rd_end _ p t st HL.out.rd).mono ?_
          rintro e w6 ⟨rfl, nq, rfl⟩
          go_wp2
          refine bodyPost_ret (v := .tuple #[noMan, .int .i64 4]) (by simp [results, Tryz.results53, go_sem, hr0, hr1]; rfl) rfl ⟨?_, ?_⟩
          · exact (((HBEL.out.trans ((Fr.refl (fun _ => False) wr).drewN nq |>.below HBEL.out.size (fun _ _ hf => hf))).setCell (p := ⟨w.heap.size, 0, none⟩) (Nat.le_refl _) _).setCell (p := ⟨w.heap.size, 1, none⟩) (Nat.le_refl _) _)
          · rw [parse_none2 (show rdAll P = _ from HT.out ▸ HALL.out) (.inl (by rw [← HT.out, size_toList]; exact HEND.out))]
  · have hcmp : (r4.toList == [109, 97, 110, 49]) = false := by rw [ByteArray.toList_eq]; exact beq_eq_false_iff_ne.2 hmag
    have HMAG := Lib.hid hmag
    clear hmag
    have hr0 : w3.cell? ⟨w.heap.size, 0, none⟩ = some (.int .i64 0) := (cell_of_row _ _ _ _ _ _ HZ3.out).trans rfl
    have hr1 : w3.cell? ⟨w.heap.size, 1, none⟩ = some (.slice none 0 0) := (cell_of_row _ _ _ _ _ _ HZ3.out).trans rfl
    have hrf0 : w3.frozen? ⟨w.heap.size, 0, none⟩ = false := frozen_of_row _ _ _ _ _ HZ3.out
    have hrf1 : w3.frozen? ⟨w.heap.size, 1, none⟩ = false := frozen_of_row _ _ _ _ _ HZ3.out
    go_wp2
    refine bodyPost_ret (v := .tuple #[noMan, .int .i64 4]) (by simp [results, Tryz.results53, go_sem, hr0, hr1]; rfl) rfl ⟨?_, ?_⟩
    · exact ((B3.out.setCell (p := ⟨w.heap.size, 0, none⟩) (Nat.le_refl _) _).setCell (p := ⟨w.heap.size, 1, none⟩) (Nat.le_refl _) _)
    · rw [parse_none1 (by rw [← HT.out, ← HR4.out]; exact HMAG.out)]

end Go.Proofs.YtppghhophaobdaaGreatDoor
