/- The walks of manif.Make. -/
import Derived.Test.YtppghhophaobdaaGreatDoorMan
import Derived.Test.YtppghhophaobdaaGreatDoorRun
namespace Go.Proofs.YtppghhophaobdaaGreatDoor
open Go.RowKit

def man1 : List UInt8 := [109, 97, 110, 49]
def entBytes (x : Int × Int) : List UInt8 := be 8 x.1.toNat ++ be 8 x.2.toNat
/-- A manifest's bytes, not sealed. -/
def manBytes (g : Int) (l : Segs) : List UInt8 := man1 ++ be 8 g.toNat ++ be 2 l.length ++ l.flatMap entBytes

theorem manBytes_take (g : Int) (l : Segs) (k : Nat) (h : k < l.length) :
    (man1 ++ be 8 g.toNat ++ be 2 l.length ++ (l.take k).flatMap entBytes ++ be 8 l[k].1.toNat) ++ be 8 l[k].2.toNat = man1 ++ be 8 g.toNat ++ be 2 l.length ++ (l.take (k + 1)).flatMap entBytes := by
  rw [List.take_succ_eq_append_getElem h, List.flatMap_append]
  simp [entBytes, List.append_assoc]
theorem entBytes_length (l : Segs) : (l.flatMap entBytes).length = 16 * l.length := by
  induction l with
  | nil => rfl
  | cons x l ih => rw [List.flatMap_cons, List.length_append, ih]; simp [entBytes, be_length]; omega

theorem segsOk_all {g : Int} : ∀ {last : Int} {l : Segs}, segsOk g last l = true → ∀ i (h : i < l.length), 0 ≤ l[i].1 ∧ l[i].1 ≤ g ∧ last < l[i].2 ∧ l[i].2 ≤ 1048576
  | _, [], _, i, h => by simp at h
  | last, (a, f) :: t, hok, i, h => by
    simp only [segsOk, Bool.and_eq_true, decide_eq_true_eq] at hok
    obtain ⟨⟨⟨⟨h1, h2⟩, h3⟩, h4⟩, h5⟩ := hok
    rcases i with _ | i
    · exact ⟨h1, h2, h3, h4⟩
    · have := segsOk_all h5 i (by simpa using h)
      simp only [List.getElem_cons_succ]
      omega
theorem mayB_all {g : Int} {l : Segs} (h : mayB g l = true) : 0 ≤ g ∧ g ≤ 99999999 ∧ 1 ≤ l.length ∧ l.length ≤ 64 ∧ ∀ i (h : i < l.length), 0 ≤ l[i].1 ∧ l[i].1 ≤ g ∧ 0 ≤ l[i].2 ∧ l[i].2 ≤ 1048576 := by
  simp only [mayB, Bool.and_eq_true, decide_eq_true_eq] at h
  obtain ⟨⟨⟨⟨h1, h2⟩, h3⟩, h4⟩, h5⟩ := h
  refine ⟨h2, h3, h4, h5, fun i hi => ?_⟩
  have := segsOk_all h1 i hi
  omega

theorem WrTo.alloc {p : Nat} {w w1 : World} {v v1 : Value} {L : List UInt8} (h : WrTo p w w1 v v1 L) (o : Obj) : WrTo p w (w1.alloc o) v v1 L :=
  ⟨h.is.kept (S := fun _ => False) ((Fr.refl _ _).alloc o) (fun hf => hf) (fun _ _ hf => hf), h.fr.alloc o, h.went⟩
theorem WrTo.start {p : Nat} {w : World} {v : Value} {L : List UInt8} (h : IsWr w p v L) : WrTo p w w v v L := ⟨h, Fr.refl _ _, Went.refl _ _⟩
theorem IsWr.fresh (w : World) : IsWr (w.alloc (.cells #[.slice none 0 0] 166)) w.heap.size (.slice none 0 0) [] := ⟨heap_alloc_new _ _, World.ownsRow_nil _ _ _ _, by simp [Value.ownBlock]⟩

theorem WrTo.cell {p : Nat} {wa wr : World} {v : Value} {L : List UInt8} (h : WrTo p wa wr (.slice none 0 0) v L) {b o : Nat} {x : Value} (hb : wa.cell? ⟨b, o, none⟩ = some x) (hne : b ≠ p) : wr.cell? ⟨b, o, none⟩ = some x :=
  h.fr.cellAt hb (fun k => k.elim hne (by simp [Value.ownBlock]))

set_option maxHeartbeats 1000000 in
theorem make_bad (w : World) (g : Int) (sv : Value) (l : Segs) (hs : SegsAt w sv l) (hl : l.length ≤ 1099511627776) (hm : mayB g l = false) :
    Calls Tryz.prog 51 #[.agg #[.int .i64 g, sv]] w fun e w' => e = .returned (.tuple #[.string ⟨#[]⟩, .int .i64 4]) ∧ Below w.heap.size w w' := by
  obtain ⟨a, c, rfl⟩ := hs.shape
  have HS := Lib.hid hs
  have HM := Lib.hid hm
  clear hs hm
  go_enter Tryz.func51, Tryz.ntmps51
  go_wp2_with fail
  refine (may_any _ g _ l (HS.out.pure ((Below.refl _ _).alloc (Nat.le_refl _) _)) hl).mono ?_
  rintro e w1 ⟨rfl, hb1⟩
  rw [HM.out]
  go_wp2
  go_ret2
  exact ⟨rfl, below_box (hb1.mono (by simp))⟩

set_option maxRecDepth 100000 in
set_option maxHeartbeats 2000000 in
theorem make_ok (w : World) (g : Int) (sv : Value) (l : Segs) (hs : SegsAt w sv l) (hm : mayB g l = true) :
    Calls Tryz.prog 51 #[.agg #[.int .i64 g, sv]] w fun e w' => ∃ r : ByteArray, r.data.toList = Crc.seal_ (manBytes g l) ∧ e = .returned (.tuple #[.string r, .int .i64 0]) ∧ Below w.heap.size w w' := by
  obtain ⟨a, c, rfl⟩ := hs.shape
  obtain ⟨hg0, hg1, hl0, hl1, hall⟩ := mayB_all hm
  obtain ⟨G, rfl⟩ := Int.eq_ofNat_of_zero_le hg0
  have HA := Lib.hid hall
  have HS := Lib.hid hs
  have HM := Lib.hid hm
  clear hs hm hall
  go_enter Tryz.func51, Tryz.ntmps51
  go_wp2_with fail
  refine (may_any _ (G : Int) _ l (HS.out.pure ((Below.refl _ _).alloc (Nat.le_refl _) _)) (by omega)).mono ?_
  rintro e w1 ⟨rfl, hb1⟩
  rw [HM.out]
  have hsz1 := hb1.size
  simp at hsz1
  have hd0 : w1.cell? ⟨w.heap.size, 0, none⟩ = some (.int .i64 (G : Int)) := by rw [hb1.cell (by simp), World.cell?_alloc_at _ _ _ _ rfl]; rfl
  have hd1 : w1.cell? ⟨w.heap.size, 1, none⟩ = some (.slice a l.length c) := by rw [hb1.cell (by simp), World.cell?_alloc_at _ _ _ _ rfl]; rfl
  obtain ⟨p, hp⟩ : ∃ p, p = w1.heap.size := ⟨_, rfl⟩
  have hpw : w.heap.size < p := by omega
  obtain ⟨wa, hwa⟩ : ∃ wa, wa = w1.alloc (.cells #[.slice none 0 0] 166) := ⟨_, rfl⟩
  have ha0 : wa.cell? ⟨w.heap.size, 0, none⟩ = some (.int .i64 (G : Int)) := by rw [hwa, World.cell?_alloc_past _ _ _ (by omega)]; exact hd0
  have ha1 : wa.cell? ⟨w.heap.size, 1, none⟩ = some (.slice a l.length c) := by rw [hwa, World.cell?_alloc_past _ _ _ (by omega)]; exact hd1
  have HF := Lib.hid (show IsWr wa p (.slice none 0 0) [] from by rw [hwa, hp]; exact IsWr.fresh w1)
  have hbw : Below w.heap.size w wa := by rw [hwa]; exact (below_box (hb1.mono (by simp))).alloc (by omega) _
  have HSA := Lib.hid (HS.out.pure hbw)
  have hne : w.heap.size ≠ p := by omega
  have HBW := Lib.hid hbw
  go_wp2_with fail
  rw [← hp, ← hwa]
  have HPW := Lib.hid (show p < wa.heap.size from HF.out.lt)
  clear hd0 hd1 hwa hp hb1 hbw
  refine (wr_raw ⟨#[109, 97, 110, 49]⟩ p _ [] _ HF.out (by decide)).mono ?_
  rintro e w2 ⟨rfl, v2, h2⟩
  have hc0 := h2.cell ha0 hne
  have hc1 := h2.cell ha1 hne
  have H2 := Lib.hid h2
  clear h2
  go_wp2_with fail
  refine (wr_u64 G p _ _ _ (by omega) H2.out.is (by decide)).mono ?_
  rintro e w3 ⟨rfl, v3, h3⟩
  have H3 := Lib.hid (H2.out.trans h3)
  have hc0 := H3.out.cell ha0 hne
  have hc1 := H3.out.cell ha1 hne
  clear h3
  go_wp2_with fail
  refine (wr_u16 l.length p _ _ _ (by omega) H3.out.is (by simp [be_length])).mono ?_
  rintro e w4 ⟨rfl, v4, h4⟩
  have H4 := Lib.hid (H3.out.trans h4)
  have hc0 := H4.out.cell ha0 hne
  have hc1 := H4.out.cell ha1 hne
  clear h4
  go_wp2_with fail
  go_loopw [23] (fun i wr => ∃ (k : Nat) (v : Value) (L : List UInt8), k ≤ l.length ∧ i = .int .i64 k ∧ L = man1 ++ be 8 G ++ be 2 l.length ++ (l.take k).flatMap entBytes ∧ WrTo p wa wr (.slice none 0 0) v L) (fun i _ => l.length - (intOf i).toNat)
  case atStart => exact ⟨0, v4, _, by omega, rfl, by simp [man1], H4.out⟩
  case round =>
    obtain ⟨k, v, L, hk, rfl, hL, hW⟩ := hrel
    have hLl : L.length ≤ 1073741800 := by
      rw [hL]; simp only [List.length_append, be_length, entBytes_length, List.length_take]; simp [man1]; omega
    have HL := Lib.hid hL
    have HW := Lib.hid hW
    have hwlt : w.heap.size < wr.heap.size := Nat.lt_of_lt_of_le (Nat.lt_trans hpw HPW.out) hW.fr.size
    have hplt : p < wr.heap.size := Nat.lt_of_lt_of_le HPW.out hW.fr.size
    clear hL hW
    by_cases hlt : k < l.length
    · obtain ⟨b, o, rfl, h1, h2, hbl⟩ := HSA.out.at k hlt
      have hbp : b ≠ p := by
        intro e; subst e
        have := HF.out.cell
        rw [cell_of_row wa b _ _ _ _ this] at h1
        rw [cell_of_row wa b _ _ _ _ this] at h2
        rcases ho : o + k * 2 with _ | j
        · rw [ho] at h1; simp at h1
        · rw [ho] at h1; simp at h1
      have hc1 := HW.out.cell h1 hbp
      have hc2 := HW.out.cell h2 hbp
      obtain ⟨hA0, hA1, hF0, hF1⟩ := HA.out k hlt
      have HT := Lib.hid (manBytes_take (G : Int) l k hlt)
      have hbw : b < wr.heap.size := Nat.lt_of_lt_of_le hbl HW.out.fr.size
      clear h1 h2
      generalize l[k].1 = A at *
      generalize l[k].2 = F at *
      obtain ⟨A, rfl⟩ := Int.eq_ofNat_of_zero_le hA0
      obtain ⟨F, rfl⟩ := Int.eq_ofNat_of_zero_le hF0
      have HWA := Lib.hid (HW.out.alloc (.cells #[.int .i64 (A : Int), .int .i64 (F : Int)] 98))
      go_wp2_with fail
      refine (wr_u64 A p v L _ (by omega) HWA.out.is (by omega)).mono ?_
      rintro e w5 ⟨rfl, v5, h5⟩
      have he1 : w5.cell? ⟨wr.heap.size, 1, none⟩ = some (.int .i64 (F : Int)) :=
        h5.fr.cellAt (by rw [World.cell?_alloc_at _ _ _ _ rfl]; rfl) (fun e => e.elim (by omega) (fun e => by have := (HW.out.is.own.lt _ e).2; omega))
      have H5 := Lib.hid (HWA.out.trans h5)
      clear h5
      go_wp2_with fail
      refine (wr_u64 F p v5 _ _ (by omega) H5.out.is (by rw [List.length_append, be_length]; omega)).mono ?_
      rintro e w6 ⟨rfl, v6, h6⟩
      have H6 := Lib.hid (H5.out.trans h6)
      clear h6
      go_wp2
      go_roundw
      case rel => exact ⟨k + 1, v6, _, by omega, by go_num, by rw [HL.out]; exact HT.out, H6.out⟩
      case measure => simp [intOf]; omega
    · go_wp2_with fail
      refine (wr_bytes p v L _ HW.out.is).mono ?_
      rintro e w5 ⟨r, hr, rfl, rfl⟩
      have HR := Lib.hid hr
      have hrs : r.size ≤ 1073741824 := by rw [size_of_list hr]; omega
      clear hr
      go_wp2_with fail
      refine (seal_any r _ (by unfold maxLen; omega)).mono ?_
      rintro e w6 ⟨q, hq, rfl, hb6⟩
      have HQ := Lib.hid hq
      clear hq
      go_wp2
      go_ret2
      refine ⟨q, ?_, rfl, ?_⟩
      · rw [HQ.out, HR.out, HL.out, List.take_of_length_le (by omega)]; rfl
      · exact (HBW.out.trans (HW.out.fr.below (B := w.heap.size) HBW.out.size (fun i hi e => e.elim (by omega) (by simp [Value.ownBlock])))).trans (hb6.mono (by omega))
end Go.Proofs.YtppghhophaobdaaGreatDoor
