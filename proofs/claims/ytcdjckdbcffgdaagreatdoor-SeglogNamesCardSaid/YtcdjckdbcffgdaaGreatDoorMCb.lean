/- The walks of manif.Make. -/
import Derived.Test.YtcdjckdbcffgdaaGreatDoorMCa
import Derived.Test.YtcdjckdbcffgdaaGreatDoorMCg
import Derived.Deep.RegionHeld3
import Derived.Deep.AppendLies
import Derived.StillTactics
namespace Go.Proofs.YtcdjckdbcffgdaaGreatDoor
open Go.RowKit

def man1 : List UInt8 := [109, 97, 110, 49]
def entBytes (x : Int × Int) : List UInt8 := be 8 x.1.toNat ++ be 8 x.2.toNat
/-- A manifest's bytes, not sealed. -/
def manBytes (g : Int) (l : Segs) : List UInt8 := man1 ++ be 8 g.toNat ++ be 2 l.length ++ l.flatMap entBytes

theorem manBytes_take (g : Int) (l : Segs) (k : Nat) (h : k < l.length) :
    (man1 ++ be 8 g.toNat ++ be 2 l.length ++ (l.take k).flatMap entBytes ++ be 8 l[k].1.toNat) ++ be 8 l[k].2.toNat = man1 ++ be 8 g.toNat ++ be 2 l.length ++ (l.take (k + 1)).flatMap entBytes := by
  rw [List.take_succ_eq_append_getElem h, List.flatMap_append]
  simp [entBytes, List.append_assoc]
theorem entBytes_length (l : Segs) : (l.flatMap entBytes).length = 16 * l.length := by
  induction l with
  | nil => rfl
  | cons x l ih => rw [List.flatMap_cons, List.length_append, ih]; simp [entBytes, be_length]; omega

theorem segsOk_all {g : Int} : ∀ {last : Int} {l : Segs}, segsOk g last l = true → ∀ i (h : i < l.length), 0 ≤ l[i].1 ∧ l[i].1 ≤ g ∧ last < l[i].2 ∧ l[i].2 ≤ 1048576
  | _, [], _, i, h => by simp at h
  | last, (a, f) :: t, hok, i, h => by
    simp only [segsOk, Bool.and_eq_true, decide_eq_true_eq] at hok
    obtain ⟨⟨⟨⟨h1, h2⟩, h3⟩, h4⟩, h5⟩ := hok
    rcases i with _ | i
    · exact ⟨h1, h2, h3, h4⟩
    · have := segsOk_all h5 i (by simpa using h)
      simp only [List.getElem_cons_succ]
      omega
theorem mayB_all {g : Int} {l : Segs} (h : mayB g l = true) : 0 ≤ g ∧ g ≤ 99999999 ∧ 1 ≤ l.length ∧ l.length ≤ 64 ∧ ∀ i (h : i < l.length), 0 ≤ l[i].1 ∧ l[i].1 ≤ g ∧ 0 ≤ l[i].2 ∧ l[i].2 ≤ 1048576 := by
  simp only [mayB, Bool.and_eq_true, decide_eq_true_eq] at h
  obtain ⟨⟨⟨⟨h1, h2⟩, h3⟩, h4⟩, h5⟩ := h
  refine ⟨h2, h3, h4, h5, fun i hi => ?_⟩
  have := segsOk_all h1 i hi
  omega

theorem WrTo.alloc {p : Nat} {w w1 : World} {v v1 : Value} {L : List UInt8} (h : WrTo p w w1 v v1 L) (o : Obj) : WrTo p w (w1.alloc o) v v1 L :=
  ⟨h.is.kept (S := fun _ => False) ((Fr.refl _ _).alloc o) (fun hf => hf) (fun _ _ hf => hf), h.fr.alloc o, h.went⟩
theorem WrTo.start {p : Nat} {w : World} {v : Value} {L : List UInt8} (h : IsWr w p v L) : WrTo p w w v v L := ⟨h, Fr.refl _ _, Went.refl _ _⟩
theorem IsWr.fresh (w : World) : IsWr (w.alloc (.cells #[.slice none 0 0] 162)) w.heap.size (.slice none 0 0) [] := ⟨heap_alloc_new _ _, World.ownsRow_nil _ _ _ _, by simp [Value.ownBlock]⟩

theorem WrTo.cell {p : Nat} {wa wr : World} {v : Value} {L : List UInt8} (h : WrTo p wa wr (.slice none 0 0) v L) {b o : Nat} {x : Value} (hb : wa.cell? ⟨b, o, none⟩ = some x) (hne : b ≠ p) : wr.cell? ⟨b, o, none⟩ = some x :=
  h.fr.cellAt hb (fun k => k.elim hne (by simp [Value.ownBlock]))

set_option maxHeartbeats 1000000 in
theorem make_bad (w : World) (g : Int) (sv : Value) (l : Segs) (hs : SegsAt w sv l) (hl : l.length ≤ 1099511627776) (hm : mayB g l = false) :
    Calls Tryz.prog 92 #[.agg #[.int .i64 g, sv]] w fun e w' => e = .returned (.tuple #[.string ⟨#[]⟩, .int .i64 4]) ∧ Below w.heap.size w w' := by
  obtain ⟨a, c, rfl⟩ := hs.shape
  have HS := Lib.hid hs
  have HM := Lib.hid hm
  clear hs hm
  go_enter Tryz.func92, Tryz.ntmps92
  go_wp2_with fail
  refine (may_any _ g _ l (HS.out.pure ((Below.refl _ _).alloc (Nat.le_refl _) _)) hl).mono ?_
  rintro e w1 ⟨rfl, hb1⟩
  rw [HM.out]
  go_wp2
  go_ret2
  exact ⟨rfl, below_box (hb1.mono (by simp))⟩

set_option maxRecDepth 100000 in
set_option maxHeartbeats 2000000 in
theorem make_ok (w : World) (g : Int) (sv : Value) (l : Segs) (hs : SegsAt w sv l) (hm : mayB g l = true) :
    Calls Tryz.prog 92 #[.agg #[.int .i64 g, sv]] w fun e w' => ∃ r : ByteArray, r.data.toList = Crc.seal_ (manBytes g l) ∧ e = .returned (.tuple #[.string r, .int .i64 0]) ∧ Below w.heap.size w w' := by
  obtain ⟨a, c, rfl⟩ := hs.shape
  obtain ⟨hg0, hg1, hl0, hl1, hall⟩ := mayB_all hm
  obtain ⟨G, rfl⟩ := Int.eq_ofNat_of_zero_le hg0
  have HA := Lib.hid hall
  have HS := Lib.hid hs
  have HM := Lib.hid hm
  clear hs hm hall
  go_enter Tryz.func92, Tryz.ntmps92
  go_wp2_with fail
  refine (may_any _ (G : Int) _ l (HS.out.pure ((Below.refl _ _).alloc (Nat.le_refl _) _)) (by omega)).mono ?_
  rintro e w1 ⟨rfl, hb1⟩
  rw [HM.out]
  have hsz1 := hb1.size
  simp at hsz1
  have hd0 : w1.cell? ⟨w.heap.size, 0, none⟩ = some (.int .i64 (G : Int)) := by rw [hb1.cell (by simp), World.cell?_alloc_at _ _ _ _ rfl]; rfl
  have hd1 : w1.cell? ⟨w.heap.size, 1, none⟩ = some (.slice a l.length c) := by rw [hb1.cell (by simp), World.cell?_alloc_at _ _ _ _ rfl]; rfl
  obtain ⟨p, hp⟩ : ∃ p, p = w1.heap.size := ⟨_, rfl⟩
  have hpw : w.heap.size < p := by omega
  obtain ⟨wa, hwa⟩ : ∃ wa, wa = w1.alloc (.cells #[.slice none 0 0] 162) := ⟨_, rfl⟩
  have ha0 : wa.cell? ⟨w.heap.size, 0, none⟩ = some (.int .i64 (G : Int)) := by rw [hwa, World.cell?_alloc_past _ _ _ (by omega)]; exact hd0
  have ha1 : wa.cell? ⟨w.heap.size, 1, none⟩ = some (.slice a l.length c) := by rw [hwa, World.cell?_alloc_past _ _ _ (by omega)]; exact hd1
  have HF := Lib.hid (show IsWr wa p (.slice none 0 0) [] from by rw [hwa, hp]; exact IsWr.fresh w1)
  have hbw : Below w.heap.size w wa := by rw [hwa]; exact (below_box (hb1.mono (by simp))).alloc (by omega) _
  have HSA := Lib.hid (HS.out.pure hbw)
  have hne : w.heap.size ≠ p := by omega
  have HBW := Lib.hid hbw
  go_wp2_with fail
  rw [← hp, ← hwa]
  have HPW := Lib.hid (show p < wa.heap.size from HF.out.lt)
  clear hd0 hd1 hwa hp hb1 hbw
  refine (wr_raw ⟨#[109, 97, 110, 49]⟩ p _ [] _ HF.out (by decide)).mono ?_
  rintro e w2 ⟨rfl, v2, h2⟩
  have hc0 := h2.cell ha0 hne
  have hc1 := h2.cell ha1 hne
  have H2 := Lib.hid h2
  clear h2
  go_wp2_with fail
  refine (wr_u64 G p _ _ _ (by omega) H2.out.is (by decide)).mono ?_
  rintro e w3 ⟨rfl, v3, h3⟩
  have H3 := Lib.hid (H2.out.trans h3)
  have hc0 := H3.out.cell ha0 hne
  have hc1 := H3.out.cell ha1 hne
  clear h3
  go_wp2_with fail
  refine (wr_u16 l.length p _ _ _ (by omega) H3.out.is (by simp [be_length])).mono ?_
  rintro e w4 ⟨rfl, v4, h4⟩
  have H4 := Lib.hid (H3.out.trans h4)
  have hc0 := H4.out.cell ha0 hne
  have hc1 := H4.out.cell ha1 hne
  clear h4
  go_wp2_with fail
  go_loopw [23] (fun i wr => ∃ (k : Nat) (v : Value) (L : List UInt8), k ≤ l.length ∧ i = .int .i64 k ∧ L = man1 ++ be 8 G ++ be 2 l.length ++ (l.take k).flatMap entBytes ∧ WrTo p wa wr (.slice none 0 0) v L) (fun i _ => l.length - (intOf i).toNat)
  case atStart => exact ⟨0, v4, _, by omega, rfl, by simp [man1], H4.out⟩
  case round =>
    obtain ⟨k, v, L, hk, rfl, hL, hW⟩ := hrel
    have hLl : L.length ≤ 1073741800 := by
      rw [hL]; simp only [List.length_append, be_length, entBytes_length, List.length_take]; simp [man1]; omega
    have HL := Lib.hid hL
    have HW := Lib.hid hW
    have hwlt : w.heap.size < wr.heap.size := Nat.lt_of_lt_of_le (Nat.lt_trans hpw HPW.out) hW.fr.size
    have hplt : p < wr.heap.size := Nat.lt_of_lt_of_le HPW.out hW.fr.size
    clear hL hW
    by_cases hlt : k < l.length
    · obtain ⟨b, o, rfl, h1, h2, hbl⟩ := HSA.out.at k hlt
      have hbp : b ≠ p := by
        intro e; subst e
        have := HF.out.cell
        rw [cell_of_row wa b _ _ _ _ this] at h1
        rw [cell_of_row wa b _ _ _ _ this] at h2
        rcases ho : o + k * 2 with _ | j
        · rw [ho] at h1; simp at h1
        · rw [ho] at h1; simp at h1
      have hc1 := HW.out.cell h1 hbp
      have hc2 := HW.out.cell h2 hbp
      obtain ⟨hA0, hA1, hF0, hF1⟩ := HA.out k hlt
      have HT := Lib.hid (manBytes_take (G : Int) l k hlt)
      have hbw : b < wr.heap.size := Nat.lt_of_lt_of_le hbl HW.out.fr.size
      clear h1 h2
      generalize l[k].1 = A at *
      generalize l[k].2 = F at *
      obtain ⟨A, rfl⟩ := Int.eq_ofNat_of_zero_le hA0
      obtain ⟨F, rfl⟩ := Int.eq_ofNat_of_zero_le hF0
      have HWA := Lib.hid (HW.out.alloc (.cells #[.int .i64 (A : Int), .int .i64 (F : Int)] 76))
      go_wp2_with fail
      refine (wr_u64 A p v L _ (by omega) HWA.out.is (by omega)).mono ?_
      rintro e w5 ⟨rfl, v5, h5⟩
      have he1 : w5.cell? ⟨wr.heap.size, 1, none⟩ = some (.int .i64 (F : Int)) :=
        h5.fr.cellAt (by rw [World.cell?_alloc_at _ _ _ _ rfl]; rfl) (fun e => e.elim (by omega) (fun e => by have := (HW.out.is.own.lt _ e).2; omega))
      have H5 := Lib.hid (HWA.out.trans h5)
      clear h5
      go_wp2_with fail
      refine (wr_u64 F p v5 _ _ (by omega) H5.out.is (by rw [List.length_append, be_length]; omega)).mono ?_
      rintro e w6 ⟨rfl, v6, h6⟩
      have H6 := Lib.hid (H5.out.trans h6)
      clear h6
      go_wp2
      go_roundw
      case rel => exact ⟨k + 1, v6, _, by omega, by go_num, by rw [HL.out]; exact HT.out, H6.out⟩
      case measure => simp [intOf]; omega
    · go_wp2_with fail
      refine (wr_bytes p v L _ HW.out.is).mono ?_
      rintro e w5 ⟨r, hr, rfl, rfl⟩
      have HR := Lib.hid hr
      have hrs : r.size ≤ 1073741824 := by rw [size_of_list hr]; omega
      clear hr
      go_wp2_with fail
      refine (seal_any r _ (by unfold maxLen; omega)).mono ?_
      rintro e w6 ⟨q, hq, rfl, hb6⟩
      have HQ := Lib.hid hq
      clear hq
      go_wp2
      go_ret2
      refine ⟨q, ?_, rfl, ?_⟩
      · rw [HQ.out, HR.out, HL.out, List.take_of_length_le (by omega)]; rfl
      · exact (HBW.out.trans (HW.out.fr.below (B := w.heap.size) HBW.out.size (fun i hi e => e.elim (by omega) (by simp [Value.ownBlock])))).trans (hb6.mono (by omega))
end Go.Proofs.YtcdjckdbcffgdaaGreatDoor

/- The walks of manif.Read. -/
namespace Go.Proofs.YtcdjckdbcffgdaaGreatDoor
open Go.RowKit

/-- A number of 64 bits, read as one with a sign. -/
def i64 (n : Nat) : Int := wrap64 (n : Int)

def rdEnts (s : List UInt8) : Nat → RdSt → Segs × RdSt
  | 0, st => ([], st)
  | n + 1, st =>
    let r := rdEnts s n ((st.fixed s 8).2.fixed s 8).2
    ((i64 (st.fixed s 8).1, i64 ((st.fixed s 8).2.fixed s 8).1) :: r.1, r.2)

def st0 : RdSt := ⟨0, 0, 0⟩
/-- What is read of the bytes that were sealed: generation, segments, and the reader's state behind them. -/
def rdAll (t : List UInt8) : Int × Segs × RdSt :=
  let a := (st0.take t 4).2.2.fixed t 8
  let b := a.2.fixed t 2
  let r := rdEnts t b.1 b.2
  (i64 a.1, r.1, r.2)
/-- The manifest of bytes that were sealed. -/
def parseMan (t : List UInt8) : Option (Int × Segs) :=
  if (st0.take t 4).1 ≠ man1 then none
  else if (rdAll t).2.2.ended t.length ≠ 0 ∨ mayB (rdAll t).1 (rdAll t).2.1 = false then none
  else some ((rdAll t).1, (rdAll t).2.1)

theorem rdEnts_length (s : List UInt8) (n : Nat) (st : RdSt) : (rdEnts s n st).1.length = n := by
  induction n generalizing st with
  | zero => rfl
  | succ n ih => simp [rdEnts, ih]

def noMan : Value := .agg #[.int .i64 0, .slice none 0 0]

set_option maxHeartbeats 1000000 in
theorem read_short (s : ByteArray) (w : World) (hs : s.size < 4) :
    Calls Tryz.prog 119 #[.string s] w fun e w' => e = .returned (.tuple #[noMan, .int .i64 8]) ∧ Below w.heap.size w w' := by
  go_enter Tryz.func119, Tryz.ntmps119
  go_wp2_with fail
  refine (open_short s _ hs).mono ?_
  rintro e w1 ⟨rfl, rfl⟩
  go_wp2
  refine bodyPost_ret (v := .tuple #[noMan, .int .i64 8]) (by simp [results, Tryz.results119, go_sem]; rfl) rfl ⟨rfl, ?_⟩
  exact (Below.refl _ _).alloc (Nat.le_refl _) _

set_option maxHeartbeats 1000000 in
theorem read_sum (s : ByteArray) (w : World) (h4 : 4 ≤ s.size) (hs : s.size ≤ maxLen) (h : ¬ Sealed s.data.toList) :
    Calls Tryz.prog 119 #[.string s] w fun e w' => e = .returned (.tuple #[noMan, .int .i64 42]) ∧ Below w.heap.size w w' := by
  have H := Lib.hid h
  clear h
  go_enter Tryz.func119, Tryz.ntmps119
  go_wp2_with fail
  refine (open_wrong s _ h4 hs H.out).mono ?_
  rintro e w1 ⟨rfl, hb1⟩
  have hsz := hb1.size
  simp at hsz
  have hz : ∀ j : Nat, w1.cell? ⟨w.heap.size, j, none⟩ = (w.alloc (.cells #[.int .i64 0, .slice none 0 0] 38)).cell? ⟨w.heap.size, j, none⟩ := fun j => hb1.cell (by simp)
  have hz0 : w1.cell? ⟨w.heap.size, 0, none⟩ = some (.int .i64 0) := by rw [hz, World.cell?_alloc_at _ _ _ _ rfl]; rfl
  have hz1 : w1.cell? ⟨w.heap.size, 1, none⟩ = some (.slice none 0 0) := by rw [hz, World.cell?_alloc_at _ _ _ _ rfl]; rfl
  have hf : ∀ j : Nat, w1.frozen? ⟨w.heap.size, j, none⟩ = false := fun j => by rw [hb1.frozen (by simp), World.frozen?_alloc_at _ _ _ _ rfl]
  clear hz
  go_wp2
  refine bodyPost_ret (v := .tuple #[noMan, .int .i64 42]) (by simp [results, Tryz.results119, go_sem, hz0, hz1]; rfl) rfl ⟨rfl, ?_⟩
  exact ((below_box (hb1.mono (by simp))).setCell (p := ⟨w.heap.size, 0, none⟩) (Nat.le_refl _) _).setCell (p := ⟨w.heap.size, 1, none⟩) (Nat.le_refl _) _

/-- Segments as cells. -/
def segCells (l : Segs) : List Value := l.flatMap fun x => [.int .i64 x.1, .int .i64 x.2]
theorem segCells_length (l : Segs) : (segCells l).length = l.length * 2 := by
  induction l with
  | nil => rfl
  | cons x l ih => simp only [segCells, List.flatMap_cons, List.length_append, List.length_cons, List.length_nil] at ih ⊢; omega
theorem segCells_get (l : Segs) (i : Nat) (h : i < l.length) : (segCells l)[i * 2]? = some (.int .i64 l[i].1) ∧ (segCells l)[i * 2 + 1]? = some (.int .i64 l[i].2) := by
  induction l generalizing i with
  | nil => simp at h
  | cons x l ih =>
    rcases i with _ | i
    · simp [segCells]
    · have := ih i (by simpa using h)
      simp only [segCells, List.flatMap_cons, List.getElem_cons_succ] at this ⊢
      rw [show (i + 1) * 2 = i * 2 + 1 + 1 from by omega]
      simpa using this
theorem segCells_snoc (l : Segs) (x y : Int) : segCells (l ++ [(x, y)]) = segCells l ++ [.int .i64 x, .int .i64 y] := by simp [segCells]

/-- A slice that the call owns, and that holds segments. -/
def OwnSegs (w : World) (v : Value) (l : Segs) : Prop := w.ownsRow 0 76 2 v l.length (segCells l)
theorem OwnSegs.at {w : World} {v : Value} {l : Segs} (h : OwnSegs w v l) : SegsAt w v l := by
  rcases h.2 with ⟨hv, hn⟩ | ⟨g, cap, cur, hv, hh⟩
  · exact ⟨none, 0, by rw [hv, hn], .inl (List.eq_nil_of_length_eq_zero hn)⟩
  · subst hv
    refine ⟨_, cap, rfl, .inr ⟨g, 0, rfl, fun i hi => ?_⟩⟩
    obtain ⟨h1, h2⟩ := segCells_get l i hi
    rw [Nat.zero_add, World.ownsRow.cellAt h (i * 2) (by omega), World.ownsRow.cellAt h (i * 2 + 1) (by omega)]
    exact ⟨h1, h2⟩

theorem Tryz.infoEntry : (Tryz.prog.info? 76).map (fun i => (i.zero, i.size, i.bytes)) = some (some (.agg #[.int .i64 0, .int .i64 0]), 2, 16) := by kernel_rfl

/-- The state of Read's loop: R: the result's block, p: the reader's, m: the manifest's. -/
structure RdLoop (wa wr : World) (t : ByteArray) (n : Nat) (sta : RdSt) (p m : Nat) (G : Int) (k : Nat) (acc : Segs) (st : RdSt) (v : Value) : Prop where
  le : k ≤ n
  len : acc.length = k
  ents : (rdEnts t.data.toList n sta).1 = acc ++ (rdEnts t.data.toList (n - k) st).1
  last : (rdEnts t.data.toList n sta).2 = (rdEnts t.data.toList (n - k) st).2
  rd : IsRd wr p t st
  box : wr.heap[m]? = some (.cells #[.int .i64 G, v] 38 (0, 0))
  own : OwnSegs wr v acc
  fr : Fr (fun i => i = p ∨ i = m) wa wr
  far : ∀ g, v.ownBlock = some g → wa.heap.size ≤ g

theorem rdEnts_step (s : List UInt8) (n k : Nat) (st : RdSt) (hk : k < n) :
    rdEnts s (n - k) st = ((i64 (st.fixed s 8).1, i64 ((st.fixed s 8).2.fixed s 8).1) :: (rdEnts s (n - (k + 1)) ((st.fixed s 8).2.fixed s 8).2).1, (rdEnts s (n - (k + 1)) ((st.fixed s 8).2.fixed s 8).2).2) := by
  rw [show n - k = (n - (k + 1)) + 1 from by omega]; rfl

theorem wrapI (x : Int) : IntKind.i64.wrap x = wrap64 x := by rw [IntKind.wrap_i64]; unfold wrap64; rfl

theorem RdLoop.next {wa wr w6 w7 w8 : World} {t : ByteArray} {n : Nat} {sta : RdSt} {p m : Nat} {G : Int} {k : Nat} {acc : Segs} {st sd se : RdSt} {v v8 : Value} {x y gg : Nat} {o : Obj}
    (h : RdLoop wa wr t n sta p m G k acc st v) (hk : k < n) (hpm : p < m) (hwa : m < wa.heap.size) (hsd : st.fixed t.data.toList 8 = (x, sd)) (hse : sd.fixed t.data.toList 8 = (y, se))
    (hf6 : Fr (fun k => k = p) wr.drew w6) (h7 : IsRd w7 p t se) (hf7 : Fr (fun k => k = p) w6 w7)
    (hown : w8.ownsRow 0 76 2 v8 (acc.length + 1) (segCells acc ++ [.int .i64 (IntKind.i64.wrap (x : Int)), .int .i64 (IntKind.i64.wrap (y : Int))])) (hg : (w7.alloc o).grownBy w8 v.ownBlock)
    (hv8 : v8.ownBlock = some gg) (hat : v.ownBlock = some gg ∨ gg = w7.heap.size + 1) :
    RdLoop wa (w8.setCell ⟨m, 1, none⟩ v8) t n sta p m G (k + 1) (acc ++ [(i64 x, i64 y)]) se v8 := by
  have hml : m < wr.heap.size := lt_of_block h.box
  have hm6 : m < w6.heap.size := Nat.lt_of_lt_of_le hml hf6.size
  have hm7 : m < w7.heap.size := Nat.lt_of_lt_of_le hm6 hf7.size
  have hvm : v.ownBlock ≠ some m := by intro e; have := h.far m e; omega
  have hvp : v.ownBlock ≠ some p := by intro e; have := h.far p e; omega
  have hw7 : wa.heap.size ≤ w7.heap.size := Nat.le_trans h.fr.size (Nat.le_trans hf6.size hf7.size)
  have hfar : wa.heap.size ≤ gg := by
    rcases hat with e | e
    · exact h.far gg e
    · omega
  have hfr7 : Fr (fun i => i = p ∨ i = m) wa w7 := (h.fr.drew.then hf6 (fun _ _ e => .inl e)).then hf7 (fun _ _ e => .inl e)
  have hfr8 : Fr (fun i => i = p ∨ i = m) wa w8 := (hfr7.alloc o).grown hg (fun i hi e => by have := h.far i e; omega)
  have hbox : w8.heap[m]? = some (.cells #[.int .i64 G, v] 38 (0, 0)) := by
    rw [hg.block m (Nat.lt_of_lt_of_le hm7 (by simp)) (fun e => hvm e.symm), Below.heap_alloc _ _ _ hm7]
    exact hf7.heapAt (hf6.heapAt (show wr.drew.heap[m]? = _ from h.box) (by omega)) (by omega)
  have hst := rdEnts_step t.data.toList n k st hk
  rw [hsd] at hst
  rw [hse] at hst
  refine ⟨by omega, by rw [List.length_append, h.len]; rfl, ?_, ?_, ?_, ?_, ?_, hfr8.setCell _ (fun _ => .inr rfl) _, fun b hb => by rw [hv8] at hb; cases hb; exact hfar⟩
  · rw [h.ents, hst]; simp
  · rw [h.last, hst]
  · have h8 : IsRd w8 p t se := ⟨by rw [hg.block p (Nat.lt_of_lt_of_le h7.lt (by simp)) (fun e => hvp e.symm), Below.heap_alloc _ _ _ h7.lt]; exact h7.1, h7.2⟩
    exact h8.kept ((Fr.refl (fun i => i = m) w8).setCell ⟨m, 1, none⟩ (fun _ => rfl) _) (by omega)
  · rw [heap_setCell_same _ _ _ _ _ _ hbox]; rfl
  · have : OwnSegs w8 v8 (acc ++ [(i64 x, i64 y)]) := by
      unfold OwnSegs
      rw [segCells_snoc, List.length_append]
      rw [wrapI, wrapI] at hown
      exact hown
    exact ((Fr.refl (fun i => i = m) w8).setCell ⟨m, 1, none⟩ (fun _ => rfl) _).ownsRow this (fun b hb => by rw [hv8] at hb; cases hb; omega)

theorem rdAll_eq {t : List UInt8} {sa sb sc st : RdSt} {g n : Nat} {acc : Segs} (h1 : (st0.take t 4).2.2 = sa) (h2 : sa.fixed t 8 = (g, sb)) (h3 : sb.fixed t 2 = (n, sc)) (h4 : (rdEnts t n sc).1 = acc) (h5 : (rdEnts t n sc).2 = st) : rdAll t = (i64 g, acc, st) := by
  unfold rdAll
  simp only [h1, h2, h3, h4, h5]
theorem parse_none1 {t : List UInt8} (h : (st0.take t 4).1 ≠ man1) : parseMan t = none := by unfold parseMan; rw [if_pos h]
theorem parse_none2 {t : List UInt8} {g : Int} {acc : Segs} {st : RdSt} (h : rdAll t = (g, acc, st)) (hb : st.ended t.length ≠ 0 ∨ mayB g acc = false) : parseMan t = none := by
  unfold parseMan
  rw [h]
  simp only
  split
  · rfl
  · first
      | rfl
      | rw [if_pos hb]
theorem parse_some {t : List UInt8} {g : Int} {acc : Segs} {st : RdSt} (h0 : (st0.take t 4).1 = man1) (h : rdAll t = (g, acc, st)) (h1 : st.ended t.length = 0) (h2 : mayB g acc = true) : parseMan t = some (g, acc) := by
  unfold parseMan
  rw [h, if_neg (fun hx => hx h0), if_neg (fun hx => hx.elim (fun hx => hx h1) (fun hx => by simp only at hx; rw [h2] at hx; cases hx))]

/-- What Read leaves of bytes that were sealed. -/
def ReadPost (w : World) (t : List UInt8) (e : Ending) (w' : World) : Prop :=
  Below w.heap.size w w' ∧ match parseMan t with
    | none => e = .returned (.tuple #[noMan, .int .i64 4])
    | some (g, l) => ∃ v, OwnSegs w' v l ∧ (∀ b, v.ownBlock = some b → w.heap.size ≤ b) ∧ e = .returned (.tuple #[.agg #[.int .i64 g, v], .int .i64 0])

theorem rd_u64x (w : World) (p : Nat) (s : ByteArray) (st : RdSt) (h : IsRd w p s st) :
    Calls Tryz.prog 134 #[.pointer (some ⟨p, 0, none⟩)] w fun e w' => ∃ (n : Nat) (st' : RdSt), st.fixed s.data.toList 8 = (n, st') ∧ e = .returned (.int .u64 (n : Int)) ∧ IsRd w' p s st' ∧ Fr (fun k => k = p) w w' :=
  (rd_u64 w p s st h).mono fun _ _ ⟨he, h1, h2⟩ => ⟨_, _, rfl, he, h1, h2⟩
theorem rd_u16x (w : World) (p : Nat) (s : ByteArray) (st : RdSt) (h : IsRd w p s st) :
    Calls Tryz.prog 151 #[.pointer (some ⟨p, 0, none⟩)] w fun e w' => ∃ (n : Nat) (st' : RdSt), st.fixed s.data.toList 2 = (n, st') ∧ n < 65536 ∧ e = .returned (.int .u16 (n : Int)) ∧ IsRd w' p s st' ∧ Fr (fun k => k = p) w w' :=
  (rd_u16 w p s st h).mono fun _ _ ⟨he, h1, h2⟩ => ⟨_, _, rfl, val_lt2 (take_len _ _ _), he, h1, h2⟩
theorem rd_rawx (w : World) (p : Nat) (s : ByteArray) (st : RdSt) (h : IsRd w p s st) (n : Nat) (hn : n ≤ 1099511627776) :
    Calls Tryz.prog 150 #[.pointer (some ⟨p, 0, none⟩), .int .i64 (n : Int)] w fun e w' => ∃ (r : ByteArray) (st' : RdSt), r.data.toList = (st.take s.data.toList n).1 ∧ (st.take s.data.toList n).2.2 = st' ∧ e = .returned (.string r) ∧ IsRd w' p s st' ∧ Fr (fun k => k = p) w w' :=
  (rd_raw w p s st h n hn).mono fun _ _ ⟨r, hr, he, h1, h2⟩ => ⟨r, _, hr, rfl, he, h1, h2⟩

set_option maxRecDepth 100000 in
set_option maxHeartbeats 2000000 in
theorem read_any (s : ByteArray) (w : World) (hs : s.size ≤ 1099511627776) (h : Sealed s.data.toList) (P : List UInt8) (hP : P = s.data.toList.take (s.size - 4)) :
    Calls Tryz.prog 119 #[.string s] w fun e w' => ReadPost w P e w' := by
  have H := Lib.hid h
  have HP := Lib.hid hP
  clear h hP
  go_enter Tryz.func119, Tryz.ntmps119
  go_wp2_with fail
  refine (open_sealed s _ (by unfold maxLen; omega) H.out).mono ?_
  rintro e w1 ⟨t, ht, rfl, hb1⟩
  have htl : t.size ≤ 1099511627776 := by rw [size_of_list ht, List.length_take]; omega
  have HT := Lib.hid (ht.trans HP.out.symm)
  clear ht
  have hsz := hb1.size
  simp at hsz
  have hz : w1.heap[w.heap.size]? = some (.cells #[.int .i64 0, .slice none 0 0] 38 (0, 0)) := by rw [hb1.block _ (by simp)]; exact heap_alloc_new _ _
  have HZ1 := Lib.hid hz
  clear hz
  have B1 := Lib.hid (below_box (hb1.mono (by simp)))
  go_wp2_with fail
  refine (rd_new t _ htl).mono ?_
  rintro e w2 ⟨rfl, h2, hb2⟩
  obtain ⟨p, hp⟩ : ∃ p, p = w1.heap.size := ⟨_, rfl⟩
  rw [← hp] at h2 ⊢
  have hpw : w.heap.size < p := by omega
  have HPP := Lib.hid hp
  clear hp
  have H2 := Lib.hid h2
  have B2 := Lib.hid (B1.out.trans (hb2.mono B1.out.size))
  have HZ2 := Lib.hid ((Fr.pure (S := fun _ => False) hb2).heapAt HZ1.out (fun hf => hf))
  go_wp2_with fail
  refine (rd_rawx _ p t st0 H2.out 4 (by omega)).mono ?_
  rintro e w3 ⟨r4, sa, hr4, hsa, rfl, h3, hf3⟩
  have H3 := Lib.hid h3
  have HZ3 := Lib.hid (hf3.heapAt HZ2.out (by omega))
  have B3 := Lib.hid (B2.out.trans (hf3.below (B := w.heap.size) B2.out.size (fun i hi e => by omega)))
  have HR4 := Lib.hid hr4
  have HSA := Lib.hid hsa
  clear h2 h3 hr4 hsa
  by_cases hmag : r4.data.toList = man1
  · have hcmp : (r4.toList == [109, 97, 110, 49]) = true := by rw [ByteArray.toList_eq, hmag]; rfl
    have HMAG := Lib.hid hmag
    clear hmag
    go_wp2_with fail
    refine (rd_u64x _ p t _ H3.out).mono ?_
    rintro e w4 ⟨g, sb, hsb, rfl, h4, hf4⟩
    have H4 := Lib.hid h4
    have HSB := Lib.hid hsb
    have HZ4 := Lib.hid (hf4.heapAt HZ3.out (by omega))
    have B4 := Lib.hid (B3.out.trans (hf4.below (B := w.heap.size) B3.out.size (fun i hi e => by omega)))
    have B4a := Lib.hid (B4.out.alloc B4.out.size (.cells #[.int .i64 (wrap64 (g : Int)), .slice none 0 0] 38))
    have hpl := h4.lt
    clear h4 hsb
    go_wp2_with fail
    obtain ⟨m, hm⟩ : ∃ m, m = w4.heap.size := ⟨_, rfl⟩
    have H4' := Lib.hid (H4.out.kept ((Fr.refl (fun _ => False) w4).alloc (.cells #[.int .i64 (wrap64 (g : Int)), .slice none 0 0] 38)) (fun hf => hf))
    have HZ4' := Lib.hid (((Fr.refl (fun _ => False) w4).alloc (.cells #[.int .i64 (wrap64 (g : Int)), .slice none 0 0] 38)).heapAt HZ4.out (fun hf => hf))
    have HM := Lib.hid (heap_alloc_new w4 (.cells #[.int .i64 (wrap64 (g : Int)), .slice none 0 0] 38))
    rw [← hm] at HM ⊢
    have hmp : p < m := by omega
    clear hm
    generalize (w4.alloc (.cells #[.int .i64 (wrap64 (g : Int)), .slice none 0 0] 38)) = w4a at *
    refine (rd_u16x _ p t _ H4'.out).mono ?_
    rintro e w5 ⟨n, sc, hsc, hn16, rfl, h5, hf5⟩
    have H5 := Lib.hid h5
    have HSC := Lib.hid hsc
    have HZ5 := Lib.hid (hf5.heapAt HZ4'.out (by omega))
    have HM5 := Lib.hid (hf5.heapAt HM.out (by omega))
    have B5 := Lib.hid (B4a.out.trans (hf5.below (B := w.heap.size) B4a.out.size (fun i hi e => by omega)))
    clear h5 hsc
    go_wp2_with fail
    go_loopw [29] (fun i wr => ∃ (k : Nat) (acc : Segs) (st : RdSt) (v : Value), i = .int .u16 (k : Int) ∧ RdLoop w5 wr t n sc p m (wrap64 (g : Int)) k acc st v) (fun i _ => n - (intOf i).toNat)
    case atStart => exact ⟨0, [], sc, .slice none 0 0, rfl, ⟨by omega, rfl, rfl, rfl, H5.out, HM5.out, World.ownsRow_nil _ _ _ _, Fr.refl _ _, by simp [Value.ownBlock]⟩⟩
    case round =>
      obtain ⟨k, acc, st, v, rfl, hL⟩ := hrel
      have HL := Lib.hid hL
      clear hL
      by_cases hlt : k < n
      · have hcm : wr.cell? ⟨m, 1, none⟩ = some v := by rw [cell_of_row _ _ _ _ _ _ HL.out.box]; rfl
        have hfm : wr.frozen? ⟨m, 1, none⟩ = false := frozen_of_row _ _ _ _ _ HL.out.box
        have hml : m < wr.heap.size := lt_of_block HL.out.box
        have hvm : v.ownBlock ≠ some m := by
          intro e; have := HL.out.far m e; have := lt_of_block HM5.out; omega
        have hvp : v.ownBlock ≠ some p := by
          intro e; have := HL.out.far p e; have := lt_of_block HM5.out; omega
        obtain ⟨a0, n0, c0, rfl⟩ := own_shape HL.out.own
        have hown := Lib.hid HL.out.own
        have HBX := Lib.hid HL.out.box
        have HRD := Lib.hid HL.out.rd
        have tok1 : True := trivial
        have tok2 : True := trivial
        obtain ⟨i0, hi, hz0, hz1, hz2⟩ := info_parts Tryz.infoEntry
        have HI := Lib.hid hi
        have HZ0 := Lib.hid hz0
        have HZ1 := Lib.hid hz1
        have HZ2 := Lib.hid hz2
        have hkl : acc.length ≤ 65536 := by have := HL.out.len; omega
        clear hi hz0 hz1 hz2
        go_wp2_with fail
        go_region_law (first
          | (go_simp; go_at_call 134; have _t := tok1; refine (rd_u64x wr.drew p t st HRD.out).mono ?_; rintro e w6 ⟨x, sd, hsd, rfl, h6, hf6⟩; have hcm := hf6.cellAt (show World.cell? wr.drew ⟨m, 1, none⟩ = _ from hcm) (by omega); have hs6 : m < w6.heap.size := Nat.lt_of_lt_of_le hml hf6.size; have HBX6 := Lib.hid (hf6.heapAt (show wr.drew.heap[m]? = _ from HBX.out) (by omega)); clear tok1)
          | (go_simp; go_at_call 134; have _t := tok2; refine (rd_u64x _ p t sd h6).mono ?_; rintro e w7 ⟨y, se, hse, rfl, h7, hf7⟩; have hcm := hf7.cellAt hcm (by omega); have hs7 : m < w7.heap.size := Nat.lt_of_lt_of_le hs6 hf7.size; have HBX7 := Lib.hid (hf7.heapAt HBX6.out (by omega)); clear tok2)
          | (refine step_append_lies _ (by rfl) _ _ _ (by rfl) 0 76 i0 _ 2 16 Tryz.underlying36 HI.out HZ0.out HZ1.out HZ2.out rfl (by omega) _ acc.length _ (by rfl) (((hf7.ownsRow (hf6.ownsRow (World.ownsRow.drew hown.out) (fun g e h => hvp (by rw [e, h]))) (fun g e h => hvp (by rw [e, h]))).alloc _))
              ⟨w7.heap.size, 0, none⟩ 1 1 [.int .i64 (IntKind.i64.wrap (x : Int)), .int .i64 (IntKind.i64.wrap (y : Int))] (by rfl) (by rfl) (cells_new rfl rfl) (by simp [Value.oneCell'])
              (by omega) (by unfold maxLen; omega) (by omega) (Nat.zero_le _) (w7.heap.size + 1) (by simp) ?_; intro gg cap w8 hown8 hgrow8 hat8 hlt8; have HBX8 := Lib.hid ((hgrow8.block m (Nat.lt_of_lt_of_le hs7 (by simp)) (fun e => hvm e.symm)).trans ((Below.heap_alloc _ _ _ hs7).trans HBX7.out)); have hc8 : w8.cell? ⟨m, 1, none⟩ = some (.slice a0 n0 c0) := (cell_of_row w8 m 1 _ _ _ HBX8.out).trans rfl; have hf8 := frozen_of_row w8 m 1 _ _ HBX8.out))
        all_goals go_wp2
        all_goals
          go_roundw
          case rel => exact ⟨k + 1, _, se, _, by go_num, HL.out.next hlt hmp (lt_of_block HM5.out) hsd hse hf6 h7 hf7 hown8 hgrow8 rfl hat8⟩
          case measure => simp [intOf]; omega
      · have hkn : k = n := by have := HL.out.le; omega
        have hnn : n - k = 0 := by omega
        have HEN := Lib.hid HL.out.ents
        have HLA := Lib.hid HL.out.last
        have HALL := Lib.hid (show rdAll t.data.toList = (i64 g, acc, st) from rdAll_eq HSA.out HSB.out HSC.out (by rw [HEN.out, hnn]; simp [rdEnts]) (by rw [HLA.out, hnn]; rfl))
        have HZR := Lib.hid (HL.out.fr.heapAt HZ5.out (by omega))
        have hr0 : wr.cell? ⟨w.heap.size, 0, none⟩ = some (.int .i64 0) := (cell_of_row _ _ _ _ _ _ HZR.out).trans rfl
        have hr1 : wr.cell? ⟨w.heap.size, 1, none⟩ = some (.slice none 0 0) := (cell_of_row _ _ _ _ _ _ HZR.out).trans rfl
        have hrf0 : wr.frozen? ⟨w.heap.size, 0, none⟩ = false := frozen_of_row _ _ _ _ _ HZR.out
        have hrf1 : wr.frozen? ⟨w.heap.size, 1, none⟩ = false := frozen_of_row _ _ _ _ _ HZR.out
        have hm0 : wr.cell? ⟨m, 0, none⟩ = some (.int .i64 (wrap64 (g : Int))) := (cell_of_row _ _ _ _ _ _ HL.out.box).trans rfl
        have hm1 : wr.cell? ⟨m, 1, none⟩ = some v := (cell_of_row _ _ _ _ _ _ HL.out.box).trans rfl
        have hrl : w.heap.size < wr.heap.size := lt_of_block HZR.out
        have HBEL := Lib.hid (B5.out.trans (HL.out.fr.below (B := w.heap.size) B5.out.size (fun i hi e => by omega)))
        obtain ⟨a0, n0, c0, rfl⟩ := own_shape HL.out.own
        clear hkn hnn
        by_cases hend : st.ended t.size = 0
        · go_wp2_with fail
          refine (rd_end _ p t st HL.out.rd).mono ?_
          rintro e w6 ⟨rfl, nq, rfl⟩
          rw [hend]
          have HEND := Lib.hid hend
          clear hend
          go_wp2_with fail
          refine (may_any (wr.drewN nq) (wrap64 (g : Int)) _ acc (show SegsAt wr _ acc from HL.out.own.at) (by have := HL.out.len; have := HL.out.le; omega)).mono ?_
          rintro e w7 ⟨rfl, hb7⟩
          have hq : ∀ b j, b < wr.heap.size → w7.cell? ⟨b, j, none⟩ = wr.cell? ⟨b, j, none⟩ := fun b j h => hb7.cell (p := ⟨b, j, none⟩) h
          have hqf : ∀ b j, b < wr.heap.size → w7.frozen? ⟨b, j, none⟩ = wr.frozen? ⟨b, j, none⟩ := fun b j h => hb7.frozen (p := ⟨b, j, none⟩) h
          have hml : m < wr.heap.size := lt_of_block HL.out.box
          rw [← hq _ _ hrl] at hr0 hr1
          rw [← hqf _ _ hrl] at hrf0 hrf1
          rw [← hq _ _ hml] at hm0 hm1
          clear hq hqf
          cases hmay : mayB (wrap64 (g : Int)) acc
          · have HMAY := Lib.hid hmay
            clear hmay
            go_wp2
            refine bodyPost_ret (v := .tuple #[noMan, .int .i64 4]) (by simp [results, Tryz.results119, go_sem, hr0, hr1]; rfl) rfl ⟨?_, ?_⟩
            · exact (((HBEL.out.trans ((show Below wr.heap.size wr w7 from ⟨hb7.os, hb7.tape, hb7.output, hb7.size, hb7.block⟩).mono HBEL.out.size)).setCell (p := ⟨w.heap.size, 0, none⟩) (Nat.le_refl _) _).setCell (p := ⟨w.heap.size, 1, none⟩) (Nat.le_refl _) _)
            · rw [parse_none2 (show rdAll P = _ from HT.out ▸ HALL.out) (.inr HMAY.out)]
          · have HMAY := Lib.hid hmay
            clear hmay
            go_wp2
            have HOWN : OwnSegs ((w7.setCell ⟨w.heap.size, 0, none⟩ (.int .i64 (wrap64 (g : Int)))).setCell ⟨w.heap.size, 1, none⟩ (.slice a0 n0 c0)) (.slice a0 n0 c0) acc := by
              have h7 : OwnSegs w7 (.slice a0 n0 c0) acc := (Fr.pure (S := fun _ => False) (show Below wr.heap.size wr w7 from ⟨hb7.os, hb7.tape, hb7.output, hb7.size, hb7.block⟩)).ownsRow HL.out.own (fun _ _ hf => hf)
              exact (((Fr.refl (fun i => i = w.heap.size) w7).setCell ⟨w.heap.size, 0, none⟩ (fun _ => rfl) _).setCell ⟨w.heap.size, 1, none⟩ (fun _ => rfl) _).ownsRow h7 (fun b hb e => by have := HL.out.far b hb; have := B5.out.size; have := lt_of_block HZ5.out; omega)
            refine bodyPost_ret (v := .tuple #[.agg #[.int .i64 (wrap64 (g : Int)), .slice a0 n0 c0], .int .i64 0]) (by simp [results, Tryz.results119, go_sem, hr0, hr1]) rfl ⟨?_, ?_⟩
            · exact (((HBEL.out.trans ((show Below wr.heap.size wr w7 from ⟨hb7.os, hb7.tape, hb7.output, hb7.size, hb7.block⟩).mono HBEL.out.size)).setCell (p := ⟨w.heap.size, 0, none⟩) (Nat.le_refl _) _).setCell (p := ⟨w.heap.size, 1, none⟩) (Nat.le_refl _) _)
            · rw [parse_some (show (st0.take P 4).1 = man1 from by rw [← HT.out, ← HR4.out]; exact HMAG.out) (show rdAll P = _ from HT.out ▸ HALL.out) (by rw [← HT.out, size_toList]; exact HEND.out) HMAY.out]
              exact ⟨_, HOWN, fun b hb => Nat.le_trans B5.out.size (HL.out.far b hb), rfl⟩
        · have hendb : (st.ended t.size == 0) = false := by simpa using hend
          have HEND := Lib.hid hend
          clear hend
          go_wp2_with fail
          refine (rd_end _ p t st HL.out.rd).mono ?_
          rintro e w6 ⟨rfl, nq, rfl⟩
          go_wp2
          refine bodyPost_ret (v := .tuple #[noMan, .int .i64 4]) (by simp [results, Tryz.results119, go_sem, hr0, hr1]; rfl) rfl ⟨?_, ?_⟩
          · exact (((HBEL.out.trans ((Fr.refl (fun _ => False) wr).drewN nq |>.below HBEL.out.size (fun _ _ hf => hf))).setCell (p := ⟨w.heap.size, 0, none⟩) (Nat.le_refl _) _).setCell (p := ⟨w.heap.size, 1, none⟩) (Nat.le_refl _) _)
          · rw [parse_none2 (show rdAll P = _ from HT.out ▸ HALL.out) (.inl (by rw [← HT.out, size_toList]; exact HEND.out))]
  · have hcmp : (r4.toList == [109, 97, 110, 49]) = false := by rw [ByteArray.toList_eq]; exact beq_eq_false_iff_ne.2 hmag
    have HMAG := Lib.hid hmag
    clear hmag
    have hr0 : w3.cell? ⟨w.heap.size, 0, none⟩ = some (.int .i64 0) := (cell_of_row _ _ _ _ _ _ HZ3.out).trans rfl
    have hr1 : w3.cell? ⟨w.heap.size, 1, none⟩ = some (.slice none 0 0) := (cell_of_row _ _ _ _ _ _ HZ3.out).trans rfl
    have hrf0 : w3.frozen? ⟨w.heap.size, 0, none⟩ = false := frozen_of_row _ _ _ _ _ HZ3.out
    have hrf1 : w3.frozen? ⟨w.heap.size, 1, none⟩ = false := frozen_of_row _ _ _ _ _ HZ3.out
    go_wp2
    refine bodyPost_ret (v := .tuple #[noMan, .int .i64 4]) (by simp [results, Tryz.results119, go_sem, hr0, hr1]; rfl) rfl ⟨?_, ?_⟩
    · exact ((B3.out.setCell (p := ⟨w.heap.size, 0, none⟩) (Nat.le_refl _) _).setCell (p := ⟨w.heap.size, 1, none⟩) (Nat.le_refl _) _)
    · rw [parse_none1 (by rw [← HT.out, ← HR4.out]; exact HMAG.out)]

end Go.Proofs.YtcdjckdbcffgdaaGreatDoor

/- Plain: a manifest's bytes are read as that manifest; what is read as one are its bytes. -/
namespace Go.Proofs.YtcdjckdbcffgdaaGreatDoor
open Go.RowKit

theorem val_append (a b : List UInt8) : val (a ++ b) = val a * 256 ^ b.length + val b := by
  induction b using List.rec generalizing a with
  | nil => simp [val]
  | cons x b ih =>
    have e : a ++ x :: b = (a ++ [x]) ++ b := by simp
    have e2 : val (x :: b) = x.toNat * 256 ^ b.length + val b := by
      have := ih [x]
      simp only [List.singleton_append] at this
      rw [this]; simp [val]
    rw [e, ih, val_snoc, e2, List.length_cons, Nat.pow_succ, Nat.add_mul, Nat.mul_assoc, Nat.mul_comm 256, Nat.add_assoc]

theorem val_be (k n : Nat) (h : n < 256 ^ k) : val (be k n) = n := by
  induction k generalizing n with
  | zero => simp at h; subst h; rfl
  | succ k ih =>
    simp only [be]
    rw [val_snoc, ih (n / 256) (by rw [Nat.pow_succ] at h; omega)]
    have : (UInt8.ofNat (n % 256)).toNat = n % 256 := by simp
    rw [this]; omega

theorem be_val (l : List UInt8) : be l.length (val l) = l := by
  suffices h : ∀ (n : Nat) (l : List UInt8), l.length = n → be n (val l) = l from h _ l rfl
  intro n
  induction n with
  | zero => intro l h; rw [List.eq_nil_of_length_eq_zero h]; rfl
  | succ n ih =>
    intro l h
    have hne : l ≠ [] := by intro e; subst e; simp at h
    have e := List.dropLast_concat_getLast hne
    generalize l.dropLast = a at e
    generalize l.getLast hne = x at e
    subst e
    have hx := x.toNat_lt
    simp only [be]
    rw [val_snoc, show (val a * 256 + x.toNat) / 256 = val a from by omega, ih a (by simpa using h), show (val a * 256 + x.toNat) % 256 = x.toNat from by omega]
    simp

theorem fixed_at {st : RdSt} {t rest : List UInt8} {k n : Nat} (he : st.e = 0) (ht : t.drop st.at_ = be k n ++ rest) (hn : n < 256 ^ k) :
    st.fixed t k = (n, ⟨st.at_ + k, 0, st.tow⟩) ∧ t.drop (st.at_ + k) = rest := by
  have hl : k ≤ t.length - st.at_ := by
    have := congrArg List.length ht
    rw [List.length_drop, List.length_append, be_length] at this; omega
  constructor
  · unfold RdSt.fixed RdSt.take
    rw [if_neg (fun h => h he), if_neg (by omega), ht, he]
    simp only
    rw [List.take_left' (be_length k n), val_be k n hn]
  · rw [← List.drop_drop, ht, List.drop_left' (be_length k n)]

theorem i64_of {n : Nat} (h : n < 9223372036854775808) : i64 n = (n : Int) := by unfold i64 wrap64; omega

def Small (l : Segs) : Prop := ∀ i (h : i < l.length), 0 ≤ l[i].1 ∧ l[i].1 < 9223372036854775808 ∧ 0 ≤ l[i].2 ∧ l[i].2 < 9223372036854775808
theorem Small.tail {x : Int × Int} {l : Segs} (h : Small (x :: l)) : Small l := fun i hi => by
  have := h (i + 1) (by simpa using hi)
  simp only [List.getElem_cons_succ] at this
  exact this

theorem rdEnts_at {t : List UInt8} : ∀ {l : Segs} {st : RdSt} {rest : List UInt8}, st.e = 0 → Small l → t.drop st.at_ = l.flatMap entBytes ++ rest →
    rdEnts t l.length st = (l, ⟨st.at_ + 16 * l.length, 0, st.tow⟩)
  | [], st, rest, he, _, _ => by
    obtain ⟨a, e, tow⟩ := st
    simp only at he; subst he; rfl
  | (x, y) :: l, st, rest, he, hs, ht => by
    have h0 := hs 0 (by simp)
    simp only [List.getElem_cons_zero] at h0
    obtain ⟨hx0, hx1, hy0, hy1⟩ := h0
    obtain ⟨x, rfl⟩ := Int.eq_ofNat_of_zero_le hx0
    obtain ⟨y, rfl⟩ := Int.eq_ofNat_of_zero_le hy0
    have e1 : t.drop st.at_ = be 8 x ++ (be 8 y ++ (l.flatMap entBytes ++ rest)) := by rw [ht]; simp [entBytes, List.append_assoc]
    obtain ⟨f1, d1⟩ := fixed_at he e1 (by omega)
    obtain ⟨f2, d2⟩ := fixed_at (st := ⟨st.at_ + 8, 0, st.tow⟩) rfl d1 (by omega)
    have ih := rdEnts_at (t := t) (l := l) (st := ⟨st.at_ + 8 + 8, 0, st.tow⟩) rfl hs.tail d2
    simp only [List.length_cons, rdEnts]
    rw [f1]; simp only
    rw [f2]; simp only
    rw [ih, i64_of (by omega), i64_of (by omega)]
    simp only [Prod.mk.injEq, RdSt.mk.injEq, true_and, and_true]
    omega

theorem small_of_may {g : Int} {l : Segs} (h : mayB g l = true) : Small l := fun i hi => by
  obtain ⟨h1, h2, _, _, h5⟩ := mayB_all h
  have := h5 i hi
  omega

/-- Bytes that were made are read as what they were made of. -/
theorem parse_make {g : Int} {l : Segs} (h : mayB g l = true) : parseMan (manBytes g l) = some (g, l) := by
  obtain ⟨h1, h2, h3, h4, h5⟩ := mayB_all h
  obtain ⟨G, rfl⟩ := Int.eq_ofNat_of_zero_le h1
  have hlen : (manBytes (G : Int) l).length = 14 + 16 * l.length := by
    unfold manBytes; simp only [List.length_append, be_length, entBytes_length]; simp [man1]
  have e0 : st0.take (manBytes (G : Int) l) 4 = (man1, true, ⟨4, 0, 0⟩) := by
    unfold RdSt.take
    rw [if_neg (by simp [st0]), if_neg (by rw [hlen]; simp only [st0]; omega)]
    simp [st0, manBytes, man1]
  have d0 : (manBytes (G : Int) l).drop 4 = be 8 G ++ (be 2 l.length ++ (l.flatMap entBytes ++ [])) := by simp [manBytes, man1, List.append_assoc]
  obtain ⟨f1, d1⟩ := fixed_at (st := ⟨4, 0, 0⟩) rfl d0 (by omega)
  obtain ⟨f2, d2⟩ := fixed_at (st := ⟨4 + 8, 0, 0⟩) rfl d1 (by omega)
  have r := rdEnts_at (t := manBytes (G : Int) l) (l := l) (st := ⟨4 + 8 + 2, 0, 0⟩) rfl (small_of_may h) d2
  have hall := rdAll_eq (t := manBytes (G : Int) l) (by rw [e0]) f1 f2 (by rw [r]) (by rw [r])
  rw [i64_of (by omega)] at hall
  exact parse_some (by rw [e0]) hall (by unfold RdSt.ended; rw [if_neg (by rw [hlen]; simp)]) h

/-- Where a read of bytes went well, these were the bytes. -/
theorem fixed_back {st st' : RdSt} {t : List UInt8} {k n : Nat} (h : st.fixed t k = (n, st')) (he : st'.e = 0) :
    st.e = 0 ∧ st'.at_ = st.at_ + k ∧ t.drop st.at_ = be k n ++ t.drop (st.at_ + k) ∧ n < 256 ^ k := by
  unfold RdSt.fixed at h
  simp only [Prod.mk.injEq] at h
  obtain ⟨h1, h2⟩ := h
  unfold RdSt.take at h1 h2
  split at h2
  · rename_i hne; simp only at h2; subst h2; exact absurd he hne
  · rename_i hne
    have hne : st.e = 0 := Classical.not_not.1 hne
    split at h2
    · simp only at h2; subst h2; exact absurd he (by simp)
    · rename_i hlt
      simp only at h2
      rw [if_neg (fun hx => hx hne), if_neg hlt] at h1
      simp only at h1
      have hl : ((t.drop st.at_).take k).length = k := by rw [List.length_take, List.length_drop]; omega
      refine ⟨hne, by rw [← h2], ?_, ?_⟩
      · have := be_val ((t.drop st.at_).take k)
        rw [hl, h1] at this
        rw [this, ← List.drop_drop, List.take_append_drop]
      · rw [← h1]; have := val_lt ((t.drop st.at_).take k); rwa [hl] at this

theorem i64_back {n : Nat} (hn : n < 18446744073709551616) (h : 0 ≤ i64 n) : (i64 n).toNat = n := by unfold i64 wrap64 at *; omega

theorem rdEnts_back {t : List UInt8} : ∀ {n : Nat} {st : RdSt}, (rdEnts t n st).2.e = 0 → Small (rdEnts t n st).1 →
    st.e = 0 ∧ (rdEnts t n st).2.at_ = st.at_ + 16 * n ∧ t.drop st.at_ = (rdEnts t n st).1.flatMap entBytes ++ t.drop (st.at_ + 16 * n)
  | 0, st, he, _ => ⟨he, by simp [rdEnts], by simp [rdEnts]⟩
  | n + 1, st, he, hs => by
    simp only [rdEnts] at he hs ⊢
    obtain ⟨a, sa, h1⟩ : ∃ a sa, st.fixed t 8 = (a, sa) := ⟨_, _, rfl⟩
    rw [h1] at he hs ⊢
    simp only at he hs ⊢
    obtain ⟨b, sb, h2⟩ : ∃ b sb, sa.fixed t 8 = (b, sb) := ⟨_, _, rfl⟩
    rw [h2] at he hs ⊢
    simp only at he hs ⊢
    obtain ⟨e3, at3, d3⟩ := rdEnts_back (t := t) he hs.tail
    obtain ⟨e2, at2, d2, n2⟩ := fixed_back h2 e3
    obtain ⟨e1, at1, d1, n1⟩ := fixed_back h1 e2
    have h0 := hs 0 (by simp)
    simp only [List.getElem_cons_zero] at h0
    refine ⟨e1, by rw [at3, at2, at1]; omega, ?_⟩
    rw [d1, ← at1, d2, ← at2, d3, List.flatMap_cons]
    unfold entBytes
    simp only
    rw [i64_back (by omega) h0.1, i64_back (by omega) h0.2.2.1, at2, at1]
    simp only [List.append_assoc]
    congr 4
    omega

/-- What is read of bytes that were sealed, made again, are the bytes. -/
theorem make_parse {t : List UInt8} {g : Int} {l : Segs} (h : parseMan t = some (g, l)) : mayB g l = true ∧ manBytes g l = t := by
  unfold parseMan at h
  split at h
  · cases h
  rename_i h4
  have h4 : (st0.take t 4).1 = man1 := Classical.not_not.1 h4
  split at h
  · cases h
  rename_i hb
  simp only [not_or, Classical.not_not, Option.some.injEq, Prod.mk.injEq, Bool.not_eq_false] at hb h
  obtain ⟨hend, hmay⟩ := hb
  obtain ⟨a, sa, h1⟩ : ∃ a sa, (st0.take t 4).2.2.fixed t 8 = (a, sa) := ⟨_, _, rfl⟩
  obtain ⟨n, sb, h2⟩ : ∃ n sb, sa.fixed t 2 = (n, sb) := ⟨_, _, rfl⟩
  have hall : rdAll t = (i64 a, (rdEnts t n sb).1, (rdEnts t n sb).2) := rdAll_eq rfl h1 h2 rfl rfl
  rw [hall] at hend hmay h
  simp only at hend hmay h
  obtain ⟨hg, hl⟩ := h
  have he : (rdEnts t n sb).2.e = 0 ∧ ¬ (rdEnts t n sb).2.at_ < t.length := by
    unfold RdSt.ended at hend
    split at hend
    · cases hend
    · rename_i hx; exact ⟨hend, fun hlt => hx ⟨hend, hlt⟩⟩
  obtain ⟨m1, m2, m3, m4, m5⟩ := mayB_all hmay
  obtain ⟨e3, at3, d3⟩ := rdEnts_back (t := t) he.1 (small_of_may hmay)
  obtain ⟨e2, at2, d2, n2⟩ := fixed_back h2 e3
  obtain ⟨e1, at1, d1, n1⟩ := fixed_back h1 e2
  have htake : 4 ≤ t.length ∧ (st0.take t 4).2.2 = ⟨4, 0, 0⟩ ∧ t.take 4 = man1 := by
    unfold RdSt.take at h4 e1 ⊢
    rw [if_neg (by simp [st0])] at h4 e1 ⊢
    by_cases hl : t.length - st0.at_ < 4
    · rw [if_pos hl] at e1; simp at e1
    · rw [if_neg hl] at h4 e1 ⊢
      simp only [st0, List.drop_zero] at h4 hl ⊢
      exact ⟨by omega, by simp, h4⟩
  obtain ⟨ht4, hst, hman⟩ := htake
  rw [hst] at d1 at1
  simp only at d1 at1
  have hlen : (rdEnts t n sb).1.length = n := rdEnts_length t n sb
  rw [← hg, ← hl]
  refine ⟨hmay, ?_⟩
  unfold manBytes
  rw [i64_back (by omega) m1, hlen]
  have hdrop : t.drop (sb.at_ + 16 * n) = [] := List.drop_eq_nil_of_le (by rw [← at3]; omega)
  rw [hdrop, List.append_nil] at d3
  have : t = man1 ++ t.drop 4 := by rw [← hman, List.take_append_drop]
  conv => rhs; rw [this, d1, ← at1, d2, ← at2, d3]
  simp only [List.append_assoc]

end Go.Proofs.YtcdjckdbcffgdaaGreatDoor

/- Frames and segments: the plain laws. -/
namespace Go.Proofs.YtcdjckdbcffgdaaGreatDoor

/-- A frame's bytes ahead of its checksum. -/
def frPre (q : Nat) (p : List UInt8) : List UInt8 := be 4 p.length ++ be 8 q
/-- A frame's bytes. -/
def frBytes (q : Nat) (p : List UInt8) : List UInt8 := frPre q p ++ (Crc.four (Crc.of (frPre q p ++ p)) ++ p)
theorem frPre_length (q : Nat) (p : List UInt8) : (frPre q p).length = 12 := by unfold frPre; simp [be_length]
theorem frBytes_length (q : Nat) (p : List UInt8) : (frBytes q p).length = 16 + p.length := by unfold frBytes; simp [frPre_length, Crc.four_length]; omega

/-- What a read of a frame tells: a code, the number, the payload. -/
def frRead (t : List UInt8) : Int × Nat × List UInt8 :=
  if t.length < 16 then (8, 0, [])
  else if 4096 < val (t.take 4) ∨ val (t.take 4) < 1 ∨ 1048576 ≤ val ((t.drop 4).take 8) then (4, 0, [])
  else if t.length < 16 + val (t.take 4) then (8, 0, [])
  else if Crc.four (Crc.of (t.take 12 ++ (t.drop 16).take (val (t.take 4)))) ≠ (t.drop 12).take 4 then (42, 0, [])
  else (0, val ((t.drop 4).take 8), (t.drop 16).take (val (t.take 4)))

/-- May a payload be? -/
def payOk (p : List UInt8) : Prop := 1 ≤ p.length ∧ p.length ≤ 4096

theorem fr_parts (q : Nat) (p r : List UInt8) (hp : payOk p) (hq : q < 1048576) :
    val ((frBytes q p ++ r).take 4) = p.length ∧ val (((frBytes q p ++ r).drop 4).take 8) = q ∧ (frBytes q p ++ r).take 12 = frPre q p ∧ ((frBytes q p ++ r).drop 12).take 4 = Crc.four (Crc.of (frPre q p ++ p)) ∧ ((frBytes q p ++ r).drop 16) = p ++ r := by
  have hl : (be 4 p.length).length = 4 := be_length _ _
  have hl8 : (be 8 q).length = 8 := be_length _ _
  have h4 : (Crc.four (Crc.of (frPre q p ++ p))).length = 4 := Crc.four_length _
  have e1 : frBytes q p ++ r = be 4 p.length ++ (be 8 q ++ (Crc.four (Crc.of (frPre q p ++ p)) ++ (p ++ r))) := by unfold frBytes frPre; simp
  have e2 : frBytes q p ++ r = frPre q p ++ (Crc.four (Crc.of (frPre q p ++ p)) ++ (p ++ r)) := by unfold frBytes; simp
  have e3 : frBytes q p ++ r = (frPre q p ++ Crc.four (Crc.of (frPre q p ++ p))) ++ (p ++ r) := by unfold frBytes; simp
  refine ⟨?_, ?_, ?_, ?_, ?_⟩
  · rw [e1, List.take_left' hl]; exact val_be 4 _ (by have := hp.2; omega)
  · rw [e1, List.drop_left' hl, List.take_left' hl8]; exact val_be 8 _ (by omega)
  · rw [e2, List.take_left' (frPre_length q p)]
  · rw [e2, List.drop_left' (frPre_length q p), List.take_left' h4]
  · rw [e3, List.drop_left' (by rw [List.length_append, frPre_length, h4])]

/-- A frame that was made is read as what it was made of. -/
theorem read_bytes (q : Nat) (p r : List UInt8) (hp : payOk p) (hq : q < 1048576) : frRead (frBytes q p ++ r) = (0, q, p) := by
  obtain ⟨a1, a2, a3, a4, a5⟩ := fr_parts q p r hp hq
  have hl : (frBytes q p ++ r).length = 16 + p.length + r.length := by rw [List.length_append, frBytes_length]
  unfold frRead
  rw [a1, a2, a3, a4, a5, hl, List.take_left' (l₁ := p) rfl]
  have := hp.1
  have := hp.2
  rw [if_neg (by omega), if_neg (by omega), if_neg (by omega), if_neg (by simp)]

theorem take_split (t : List UInt8) (a b : Nat) : t.take (a + b) = t.take a ++ (t.drop a).take b := by
  rw [List.take_add]

/-- What is read, made again, are the bytes. -/
theorem read_back {t : List UInt8} {q : Nat} {p : List UInt8} (h : frRead t = (0, q, p)) : payOk p ∧ q < 1048576 ∧ t = frBytes q p ++ t.drop (16 + p.length) := by
  unfold frRead at h
  split at h
  · simp at h
  rename_i h1
  split at h
  · simp at h
  rename_i h2
  split at h
  · simp at h
  rename_i h3
  split at h
  · simp at h
  rename_i h4
  have h4 := Decidable.not_not.1 h4
  simp only [Prod.mk.injEq, true_and] at h
  obtain ⟨hq, hp⟩ := h
  have hn : p.length = val (t.take 4) := by rw [← hp, List.length_take, List.length_drop]; omega
  have e4 : be 4 p.length = t.take 4 := by
    rw [hn]
    have := be_val (t.take 4)
    rwa [show (t.take 4).length = 4 from by rw [List.length_take]; omega] at this
  have e8 : be 8 q = (t.drop 4).take 8 := by
    rw [← hq]
    have := be_val ((t.drop 4).take 8)
    rwa [show ((t.drop 4).take 8).length = 8 from by rw [List.length_take, List.length_drop]; omega] at this
  have e12 : frPre q p = t.take 12 := by unfold frPre; rw [e4, e8, ← take_split]
  refine ⟨⟨by omega, by omega⟩, by omega, ?_⟩
  unfold frBytes
  rw [e12, ← hp, h4, hp]
  have e16 : t.take 12 ++ ((t.drop 12).take 4 ++ p) = t.take (16 + p.length) := by
    rw [← List.append_assoc, ← take_split, take_split t 16 p.length, ← hp, hp, hn, hp]
  rw [e16, List.take_append_drop]

/-- Of less than a frame nothing is read. -/
theorem read_torn {q : Nat} {p : List UInt8} (hp : payOk p) (hq : q < 1048576) {k : Nat} (hk : k < (frBytes q p).length) : (frRead ((frBytes q p).take k)).1 = 8 := by
  rw [frBytes_length] at hk
  have hl : ((frBytes q p).take k).length = k := by rw [List.length_take, frBytes_length]; omega
  unfold frRead
  rw [hl]
  by_cases h16 : k < 16
  · rw [if_pos h16]
  · obtain ⟨a1, a2, _⟩ := fr_parts q p [] hp hq
    rw [List.append_nil] at a1 a2
    rw [if_neg h16, List.take_take, Nat.min_eq_left (by omega : 4 ≤ k), a1]
    rw [show (((frBytes q p).take k).drop 4).take 8 = ((frBytes q p).drop 4).take 8 from by rw [List.drop_take, List.take_take, Nat.min_eq_left (by omega)], a2]
    have := hp.1
    have := hp.2
    rw [if_neg (by omega), if_pos (by omega)]

/-- Payloads as frames, from a number on. -/
def frames : Nat → List (List UInt8) → List UInt8
  | _, [] => []
  | q, p :: r => frBytes q p ++ frames (q + 1) r
/-- What a scan finds: the payloads of frames whose numbers rise from q on. -/
def scanF : Nat → Nat → List UInt8 → List (List UInt8)
  | 0, _, _ => []
  | n + 1, q, t => if (frRead t).1 = 0 ∧ (frRead t).2.1 = q then (frRead t).2.2 :: scanF n (q + 1) (t.drop (16 + (frRead t).2.2.length)) else []
/-- May payloads be frames, from q on? -/
def frOk : Nat → List (List UInt8) → Prop
  | _, [] => True
  | q, p :: r => payOk p ∧ q < 1048576 ∧ frOk (q + 1) r

theorem frames_append (q : Nat) (a b : List (List UInt8)) : frames q (a ++ b) = frames q a ++ frames (q + a.length) b := by
  induction a generalizing q with
  | nil => rfl
  | cons p r ih => show frBytes q p ++ frames (q + 1) (r ++ b) = _; rw [ih]; simp [frames, Nat.add_assoc, Nat.add_comm 1]
theorem frOk_append {q : Nat} {a b : List (List UInt8)} : frOk q (a ++ b) ↔ frOk q a ∧ frOk (q + a.length) b := by
  induction a generalizing q with
  | nil => simp [frOk]
  | cons p r ih =>
    show payOk p ∧ q < 1048576 ∧ frOk (q + 1) (r ++ b) ↔ (payOk p ∧ q < 1048576 ∧ frOk (q + 1) r) ∧ _
    rw [ih, List.length_cons, show q + 1 + r.length = q + (r.length + 1) from by omega]
    constructor
    · rintro ⟨a, b, c, d⟩; exact ⟨⟨a, b, c⟩, d⟩
    · rintro ⟨⟨a, b, c⟩, d⟩; exact ⟨a, b, c, d⟩
theorem frOk_mem {q : Nat} {a : List (List UInt8)} (h : frOk q a) : ∀ p ∈ a, payOk p := by
  induction a generalizing q with
  | nil => simp
  | cons p r ih => intro x hx; rcases List.mem_cons.1 hx with rfl | hx; exact h.1; exact ih h.2.2 x hx
theorem frOk_le {q : Nat} {a : List (List UInt8)} (h : frOk q a) : a = [] ∨ q + a.length ≤ 1048576 := by
  induction a generalizing q with
  | nil => exact .inl rfl
  | cons p r ih =>
    right
    rcases ih h.2.2 with rfl | h2
    · have := h.2.1; simp; omega
    · simp; omega
theorem frames_length_le {q : Nat} {a : List (List UInt8)} : a.length ≤ (frames q a).length := by
  induction a generalizing q with
  | nil => simp
  | cons p r ih => simp only [frames, List.length_append, frBytes_length, List.length_cons]; have := ih (q := q + 1); omega

/-- A scan of frames finds them, and what is behind them, if it goes on so. -/
theorem scan_frames {ps : List (List UInt8)} : ∀ {q n : Nat} {tail : List UInt8}, frOk q ps → ps.length ≤ n → scanF n q (frames q ps ++ tail) = ps ++ scanF (n - ps.length) (q + ps.length) tail := by
  induction ps with
  | nil => intro q n tail _ _; simp [frames]
  | cons p r ih =>
    intro q n tail h hn
    obtain ⟨hp, hq, hr⟩ := h
    obtain ⟨n, rfl⟩ : ∃ m, n = m + 1 := ⟨n - 1, by simp at hn; omega⟩
    have e : frames q (p :: r) ++ tail = frBytes q p ++ (frames (q + 1) r ++ tail) := by simp [frames]
    have hrd := read_bytes q p (frames (q + 1) r ++ tail) hp hq
    rw [e, scanF, hrd, if_pos ⟨rfl, rfl⟩, List.drop_left' (frBytes_length q p), ih hr (by simpa using hn)]
    simp [Nat.add_assoc, Nat.add_comm 1]
theorem scan_stop {n q : Nat} {t : List UInt8} (h : ¬ ((frRead t).1 = 0 ∧ (frRead t).2.1 = q)) : scanF n q t = [] := by
  cases n with
  | zero => rfl
  | succ n => rw [scanF, if_neg h]
/-- What a scan finds are frames that stand at the beginning. -/
theorem scan_back : ∀ {n q : Nat} {t : List UInt8}, frOk q (scanF n q t) ∧ ∃ tail, t = frames q (scanF n q t) ++ tail := by
  intro n
  induction n with
  | zero => intro q t; exact ⟨trivial, t, rfl⟩
  | succ n ih =>
    intro q t
    rw [scanF]
    split
    · rename_i h
      obtain ⟨h1, h2⟩ := h
      obtain ⟨b1, b2, b3⟩ := read_back (t := t) (q := q) (p := (frRead t).2.2) (by rw [← h1, ← h2])
      obtain ⟨i1, tail, i2⟩ := ih (q := q + 1) (t := t.drop (16 + (frRead t).2.2.length))
      refine ⟨⟨b1, b2, i1⟩, tail, ?_⟩
      rw [frames, List.append_assoc, ← i2]
      exact b3
    · exact ⟨trivial, t, rfl⟩
theorem frRead_nil : frRead [] = (8, 0, []) := rfl
/-- Of a beginning of frames just those are found that are there whole. -/
theorem scan_cut {ps : List (List UInt8)} : ∀ {q n k : Nat}, frOk q ps → ps.length ≤ n → ∃ j, j ≤ ps.length ∧ scanF n q ((frames q ps).take k) = ps.take j ∧ (∀ i, i ≤ ps.length → (frames q (ps.take i)).length ≤ k → i ≤ j) := by
  induction ps with
  | nil => intro q n k _ _; exact ⟨0, Nat.le_refl _, by simp [frames]; exact scan_stop (by rw [frRead_nil]; simp), fun i hi _ => by simpa using hi⟩
  | cons p r ih =>
    intro q n k h hn
    obtain ⟨hp, hq, hr⟩ := h
    by_cases hk : k < (frBytes q p).length
    · refine ⟨0, Nat.zero_le _, ?_, ?_⟩
      · rw [frames, List.take_append_of_le_length (by omega)]
        refine scan_stop ?_
        rw [read_torn (p := p) hp hq hk]
        simp
      · intro i hi hl
        cases i with
        | zero => exact Nat.le_refl _
        | succ i => simp only [List.take_succ_cons, frames, List.length_append] at hl; omega
    · obtain ⟨n, rfl⟩ : ∃ m, n = m + 1 := ⟨n - 1, by simp at hn; omega⟩
      obtain ⟨j, hj, e, hmax⟩ := ih (q := q + 1) (n := n) (k := k - (frBytes q p).length) hr (by simpa using hn)
      refine ⟨j + 1, by simpa using hj, ?_, ?_⟩
      · have e1 : (frames q (p :: r)).take k = frBytes q p ++ (frames (q + 1) r).take (k - (frBytes q p).length) := by rw [frames, List.take_append, List.take_of_length_le (by omega)]
        rw [e1, scanF, read_bytes q p _ hp hq, if_pos ⟨rfl, rfl⟩, List.drop_left' (frBytes_length q p), e, List.take_succ_cons]
      · intro i hi hl
        cases i with
        | zero => omega
        | succ i =>
          simp only [List.take_succ_cons, frames, List.length_append] at hl
          have := hmax i (by simpa using hi) (by omega)
          omega

/-- A segment's header. -/
def segHead (q : Nat) : List UInt8 := Crc.seal_ ([115, 101, 103, 49] ++ be 8 q)
theorem segHead_length (q : Nat) : (segHead q).length = 16 := by unfold segHead; rw [Crc.seal_length]; simp [be_length]
/-- What a header tells: a code, the number. -/
def segFirst (s : List UInt8) : Int × Nat :=
  if s.length < 16 then (8, 0)
  else if s.take 4 ≠ [115, 101, 103, 49] then (4, 0)
  else if Crc.seal_ (s.take 12) ≠ s.take 16 then (42, 0)
  else if 1048576 < val ((s.drop 4).take 8) then (4, 0)
  else (0, val ((s.drop 4).take 8))
theorem first_head {q : Nat} (hq : q ≤ 1048576) (t : List UInt8) : segFirst (segHead q ++ t) = (0, q) := by
  have h12 : ([115, 101, 103, 49] ++ be 8 q : List UInt8).length = 12 := by simp [be_length]
  have e : segHead q ++ t = ([115, 101, 103, 49] ++ be 8 q) ++ (Crc.four (Crc.of ([115, 101, 103, 49] ++ be 8 q)) ++ t) := by unfold segHead Crc.seal_; simp
  have h3 : ([115, 101, 103, 49] : List UInt8).length = 4 := rfl
  have e2 : segHead q ++ t = [115, 101, 103, 49] ++ (be 8 q ++ (Crc.four (Crc.of ([115, 101, 103, 49] ++ be 8 q)) ++ t)) := by unfold segHead Crc.seal_; simp
  have a1 : (segHead q ++ t).take 4 = [115, 101, 103, 49] := by rw [e2, List.take_left' h3]
  have a2 : ((segHead q ++ t).drop 4).take 8 = be 8 q := by rw [e2, List.drop_left' h3, List.take_left' (be_length _ _)]
  have a3 : (segHead q ++ t).take 12 = [115, 101, 103, 49] ++ be 8 q := by rw [e, List.take_left' h12]
  have a4 : (segHead q ++ t).take 16 = segHead q := List.take_left' (segHead_length q)
  have a5 : (segHead q ++ t).length = 16 + t.length := by rw [List.length_append, segHead_length]
  unfold segFirst
  rw [a1, a2, a3, a4, a5, val_be 8 q (by omega), if_neg (by omega), if_neg (by simp), if_neg (by unfold segHead; simp), if_neg (by omega)]
theorem first_back {s : List UInt8} {q : Nat} (h : segFirst s = (0, q)) : q ≤ 1048576 ∧ s = segHead q ++ s.drop 16 := by
  unfold segFirst at h
  split at h
  · simp at h
  rename_i h1
  split at h
  · simp at h
  rename_i h2
  split at h
  · simp at h
  rename_i h3
  split at h
  · simp at h
  rename_i h4
  simp only [Prod.mk.injEq, true_and] at h
  have h2 := Decidable.not_not.1 h2
  have h3 := Decidable.not_not.1 h3
  have e8 : be 8 q = (s.drop 4).take 8 := by
    rw [← h]
    have := be_val ((s.drop 4).take 8)
    rwa [show ((s.drop 4).take 8).length = 8 from by rw [List.length_take, List.length_drop]; omega] at this
  refine ⟨by omega, ?_⟩
  unfold segHead
  rw [← h2, e8, ← take_split, h3, List.take_append_drop]

/-- A segment's bytes. -/
def segBytes (q : Nat) (ps : List (List UInt8)) : List UInt8 := segHead q ++ frames q ps
theorem segBytes_length (q : Nat) (ps : List (List UInt8)) : (segBytes q ps).length = 16 + (frames q ps).length := by unfold segBytes; rw [List.length_append, segHead_length]
end Go.Proofs.YtcdjckdbcffgdaaGreatDoor
