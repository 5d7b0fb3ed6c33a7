/- The walk of the law ManifNames. -/
import Derived.Test.YtljmekdilhphaaaGreatDoorNsA
namespace Go.Proofs.YtljmekdilhphaaaGreatDoor
open Go.RowKit Go.Sort

set_option maxRecDepth 100000 in
set_option maxHeartbeats 8000000 in
theorem manifNames_any (w : World) (hp : Pow w) :
    Calls Tryz.prog 7 #[] w fun e w' => e = .returned (.bool true) ∧ Below w.heap.size w w' := by
  have HP := Lib.hid hp
  clear hp
  go_enter Tryz.func7, Tryz.ntmps7
  go_upto_block 0 with (go_at_call 10; refine (awake_any _ HP.out).mono ?_; rintro e w1 ⟨rfl, hb1⟩; have HB1 := Lib.hid hb1; clear hb1)
  have hbz := box_bz w1 (.cells #[.int .i64 0, .slice none 0 0] 32)
  have hbx0 : (w1.alloc (.cells #[.int .i64 0, .slice none 0 0] 32)).heap[w1.heap.size]? = some (.cells #[.int .i64 0, .slice none 0 0] 32 (0, 0)) := alloc_at_top _ _ rfl
  have B2 := Lib.hid (HB1.out.trans (hbz.mono HB1.out.size))
  have hfs := hbz.size
  have hfl : w1.heap.size < (w1.alloc (.cells #[.int .i64 0, .slice none 0 0] 32)).heap.size := by simp
  have hfw : w.heap.size ≤ w1.heap.size := HB1.out.size
  clear hbz
  generalize (w1.alloc (.cells #[.int .i64 0, .slice none 0 0] 32)) = w2 at *
  generalize w1.heap.size = fb at *
  have HBX0 := Lib.hid hbx0
  clear hbx0 HB1 hfs
  go_cut [2] (fun _ wx => ∃ g c, wx.heap[fb]? = some (.cells #[.int .i64 0, .slice (some ⟨g, 0, none⟩) 64 c] 32 (0, 0)) ∧ wx.ownsRow (fb + 1) 72 2 (.slice (some ⟨g, 0, none⟩) 64 c) 64 (segCells (fullL 64)) ∧ Below fb w2 wx)
  case first =>
    go_wp2_with fail
    go_loopw [2] (fun i wr => ∃ (k : Nat) (v : Value), i = .int .i64 k ∧ k ≤ 64 ∧ wr.heap[fb]? = some (.cells #[.int .i64 0, v] 32 (0, 0)) ∧ wr.ownsRow (fb + 1) 72 2 v k (segCells (fullL k)) ∧ Below fb w2 wr) (fun i _ => 64 - (intOf i).toNat)
    case atStart => exact ⟨0, .slice none 0 0, rfl, by omega, HBX0.out, World.ownsRow_nil _ _ _ _, Below.refl _ _⟩
    case round =>
      obtain ⟨k, v, rfl, hk, hbox, hown, hb⟩ := hrel
      have hszl : fb < wr.heap.size := lt_of_block hbox
      obtain ⟨a0, n0, c0, rfl⟩ := own_shape hown
      have q1 : wr.cell? ⟨fb, 1, none⟩ = some (.slice a0 n0 c0) := by rw [cell_of_row _ _ _ _ _ _ hbox]; rfl
      have z1 : wr.frozen? ⟨fb, 1, none⟩ = false := frozen_of_row _ _ _ _ _ hbox
      have HBX := Lib.hid hbox
      have HO := Lib.hid hown
      have HB := Lib.hid hb
      have hfar : ∀ j, (Value.slice a0 n0 c0).ownBlock = some j → fb + 1 ≤ j := fun j e => own_ge HO.out e
      have HFAR := Lib.hid hfar
      clear hbox hown hb hfar
      by_cases hlt : k < 64
      · have HSC := Lib.hid (show segCells (fullL (k + 1)) = segCells (fullL k) ++ [.int .i64 0, .int .i64 (k : Int)] by rw [fullL_succ, segCells_snoc])
        have HO1 := Lib.hid (HO.out.alloc (.cells #[.int .i64 0, .int .i64 (k : Int)] 72))
        have HBX1 := Lib.hid ((Below.heap_alloc wr (.cells #[.int .i64 0, .int .i64 (k : Int)] 72) _ hszl).trans HBX.out)
        go_wp2_with (at_builtin; refine ap_ent rfl _ _ rfl (fb + 1) _ k _ rfl HO1.out ⟨wr.heap.size, 0, none⟩ 1 1 [.int .i64 0, .int .i64 (k : Int)] rfl rfl (cells_new rfl rfl) (by simp [Value.oneCell']) (by omega) (by omega) (by simp; omega) (wr.heap.size + 1) (by simp) ?_; intro gg cap w8 hown8 hgrow8 hat8 hlt8; have hbx8 := (hgrow8.block fb (by simp; omega) (fun e => by have := HFAR.out _ e.symm; omega)).trans HBX1.out; have HBX8 := Lib.hid hbx8; have hc8 : w8.cell? ⟨fb, 1, none⟩ = some (.slice a0 n0 c0) := (cell_of_row w8 _ 1 _ _ _ hbx8).trans rfl; have hf8 := frozen_of_row w8 _ 1 _ _ hbx8; clear hbx8; have HO8 := Lib.hid hown8; have HG8 := Lib.hid hgrow8; clear hown8 hgrow8)
        go_roundw
        case rel =>
          have hge := own_ge HO8.out (g := gg) rfl
          refine ⟨k + 1, _, by go_num, by omega, heap_setCell_same w8 _ 1 _ _ _ HBX8.out, ?_, ?_⟩
          · refine ownsRow_setCell_other ?_ (by show some gg ≠ some fb; intro e; cases e; omega) _
            rw [HSC.out]; exact HO8.out
          · exact (((HB.out).alloc (by have := HB.out.size; omega) _).grown HG8.out (by simp; have := HB.out.size; omega) (fun j e => by have := HFAR.out j e; omega)).setCell (Nat.le_refl _) _
        case measure => simp [intOf]; omega
      · obtain rfl : k = 64 := by omega
        rcases HO.out.2 with ⟨hv, hn⟩ | ⟨g, cap, cur, hv, _⟩
        · omega
        · cases hv
          go_wp2_with fail
          go_meet
          exact ⟨g, _, HBX.out, HO.out, HB.out⟩
  case rest =>
    obtain ⟨g, c, hf, ho, hbx⟩ := hcut
    apply_assumption
    exact ns_mid w _ (B2.out.trans (hbx.mono hfw)) fb g c hf (ownsRow_base ho (fun _ _ => Nat.zero_le _))
end Go.Proofs.YtljmekdilhphaaaGreatDoor
