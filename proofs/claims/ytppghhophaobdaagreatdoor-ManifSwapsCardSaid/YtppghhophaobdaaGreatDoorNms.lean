/- The walk of manif.Names. -/
import Derived.Test.YtppghhophaobdaaGreatDoorNm
import Derived.Test.YtppghhophaobdaaGreatDoorDk10
import Derived.Test.YtppghhophaobdaaGreatDoorMake
import Derived.Deep.AppendLies
namespace Go.Proofs.YtppghhophaobdaaGreatDoor
open Go.RowKit Go.Sort Go.Shelf

theorem Tryz.infoStr : (Tryz.prog.info? 9).map (fun i => (i.zero, i.size, i.bytes)) = some (some (.string ⟨#[]⟩), 1, 16) := by kernel_rfl

theorem own_ge {w : World} {base : Nat} {e : TypeId} {size : Nat} {v : Value} {n : Nat} {xs : List Value} (h : w.ownsRow base e size v n xs) {g : Nat} (hg : v.ownBlock = some g) : base ≤ g := by
  obtain ⟨_, ⟨rfl, _⟩ | ⟨g', cap, cur, rfl, hb, _⟩⟩ := h
  · cases hg
  · cases hg; exact hb

def nameOf (x : Int × Int) : List UInt8 := segName x.1 x.2

set_option maxRecDepth 100000 in
set_option maxHeartbeats 2000000 in
theorem names_bad (w : World) (g : Int) (sv : Value) (l : Segs) (hs : SegsAt w sv l) (hl : l.length ≤ 1099511627776) (hm : mayB g l = false) :
    Calls Tryz.prog 54 #[.agg #[.int .i64 g, sv]] w fun e w' => e = .returned (.slice none 0 0) ∧ Below w.heap.size w w' := by
  have hbz : Below w.heap.size w (w.alloc (.cells #[.int .i64 g, sv] 40)) := (Below.refl _ _).alloc (Nat.le_refl _) _
  have HS := Lib.hid (hs.pure hbz)
  have HM := Lib.hid hm
  have HB := Lib.hid hbz
  clear hs hm hbz
  go_enter Tryz.func54, Tryz.ntmps54
  go_wp2_with fail
  refine (may_any _ g sv l HS.out hl).mono ?_
  rintro e w1 ⟨rfl, hb1⟩
  rw [HM.out]
  have HB1 := Lib.hid (HB.out.trans (hb1.mono (by simp)))
  clear hb1
  go_wp2
  go_ret
  exact ⟨rfl, HB1.out⟩

set_option maxRecDepth 100000 in
set_option maxHeartbeats 2000000 in
theorem names_ok (w : World) (hp : Pow w) (g : Int) (sv : Value) (l : Segs) (hs : SegsAt w sv l) (hm : mayB g l = true) :
    Calls Tryz.prog 54 #[.agg #[.int .i64 g, sv]] w fun e w' => ∃ v, e = .returned v ∧ Below w.heap.size w w' ∧ w'.ownsRow (w.heap.size + 1) 9 1 v l.length ((l.map nameOf).map encStr) := by
  obtain ⟨a, c, rfl⟩ := hs.shape
  obtain ⟨hg0, hg1, hl0, hl1, hall⟩ := mayB_all hm
  have hbz : Below w.heap.size w (w.alloc (.cells #[.int .i64 g, .slice a l.length c] 40)) := (Below.refl _ _).alloc (Nat.le_refl _) _
  have HS := Lib.hid hs
  have HS1 := Lib.hid (hs.pure hbz)
  have HM := Lib.hid hm
  have HB := Lib.hid hbz
  have HP := Lib.hid hp
  have hpl := pow_lt hp
  have HA := Lib.hid hall
  clear hs hm hbz hp hall
  go_enter Tryz.func54, Tryz.ntmps54
  go_wp2_with fail
  refine (may_any _ g _ l HS1.out (by omega)).mono ?_
  rintro e w1 ⟨rfl, hb1⟩
  rw [HM.out]
  have HB1 := Lib.hid (show Below (w.heap.size + 1) (w.alloc (.cells #[.int .i64 g, .slice a l.length c] 40)) w1 from hb1.mono (by simp))
  have hc4 : w1.cell? ⟨w.heap.size, 1, none⟩ = some (.slice a l.length c) := by rw [hb1.cell (by simp), World.cell?_alloc_at _ _ _ _ rfl]; rfl
  have hs1 := hb1.size
  simp at hs1
  clear hb1
  go_wp2
  go_loopw [3, 12] (fun v i wr => ∃ k : Nat, k ≤ l.length ∧ i = .int .i64 k ∧ wr.ownsRow (w.heap.size + 1) 9 1 v k (((l.take k).map nameOf).map encStr) ∧ Below (w.heap.size + 1) (w.alloc (.cells #[.int .i64 g, .slice a l.length c] 40)) wr) (fun _ i _ => l.length - (intOf i).toNat)
  case atStart => exact ⟨0, by omega, rfl, World.ownsRow_nil _ _ _ _, HB1.out⟩
  case round =>
    obtain ⟨k, hk, rfl, hown, hb⟩ := hrel
    have hsz := hb.size
    simp at hsz
    by_cases hlt : k < l.length
    · obtain ⟨b, o, rfl, h1, h2, hbl⟩ := HS.out.at k hlt
      have hc1 : wr.cell? ⟨b, o + k * 2, none⟩ = some (.int .i64 l[k].1) := by rw [hb.cell (by show b < _; omega), World.cell?_alloc_past _ _ _ hbl]; exact h1
      have hc2 : wr.cell? ⟨b, o + k * 2 + 1, none⟩ = some (.int .i64 l[k].2) := by rw [hb.cell (by show b < _; omega), World.cell?_alloc_past _ _ _ hbl]; exact h2
      clear h1 h2
      have hpw := Lib.hid (below_pow ((Below.refl wr.heap.size wr).alloc (Nat.le_refl _) (.cells #[.int .i64 l[k].1, .int .i64 l[k].2] 98)) ((Fr.of_below hb).pow (((Fr.refl (fun _ => False) w).alloc _).pow HP.out (fun h => h)) (by omega)))
      have HO := Lib.hid hown
      clear hown
      go_wp2_with fail
      refine (name_any _ hpw.out l[k].1 l[k].2).mono ?_
      rintro e w3 ⟨⟨r, hr, rfl⟩, hb3⟩
      have HR := Lib.hid (show Value.string r = encStr (nameOf l[k]) from by unfold encStr nameOf; rw [← hr])
      have hb4 : Below wr.heap.size wr w3 := ((Below.refl wr.heap.size wr).alloc (Nat.le_refl _) _).trans (hb3.mono (by simp))
      have hs3 := hb4.size
      have HO4 := Lib.hid (((Fr.pure (S := fun _ => False) hb4).ownsRow HO.out (fun _ _ h => h)).alloc (.cells #[.string r] 9))
      have HB4 := Lib.hid hb4
      clear hr hb3 hb4
      obtain ⟨i0, hi, hz0, hz1, hz2⟩ := info_parts Tryz.infoStr
      have HI := Lib.hid hi
      have HZ0 := Lib.hid hz0
      have HZ1 := Lib.hid hz1
      have HZ2 := Lib.hid hz2
      clear hi hz0 hz1 hz2
      go_wp2_with (first
        | (refine wpList_append_lies _ rfl _ _ 57 rfl (w.heap.size + 1) 9 i0 _ 1 16 Tryz.underlying57 HI.out HZ0.out HZ1.out HZ2.out rfl (by omega) _ k _ rfl HO4.out ⟨w3.heap.size, 0, none⟩ 1 1 [.string r] rfl rfl (cells_new rfl rfl) (by simp [Value.oneCell']) (by omega) (by unfold maxLen; omega) (by omega) (by simp; omega) (w3.heap.size + 1) (by simp) ?_; intro gg cap w8 hown8 hgrow8 hat8 hlt8))
      go_roundw
      case rel =>
        refine ⟨k + 1, by omega, by go_num, ?_, ?_⟩
        · rw [List.take_succ_eq_append_getElem hlt, List.map_append, List.map_append, List.map_cons, List.map_cons, List.map_nil, List.map_nil, ← HR.out]; exact hown8
        · exact ((hb.trans (HB4.out.mono hsz)).alloc (by omega) _).grown hgrow8 (by simp; omega) (fun j e => own_ge HO4.out (by exact e))
      case measure => simp [intOf]; omega
    · have hkl : k = l.length := by omega
      have HO := Lib.hid hown
      clear hown
      go_wp2
      go_ret
      have ho := HO.out
      rw [hkl, List.take_length] at ho
      exact ⟨_, rfl, below_box hb, ho⟩

end Go.Proofs.YtppghhophaobdaaGreatDoor
