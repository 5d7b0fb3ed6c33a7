/- ManifNames' end: one name at the bounds, the texts that are none, the disks that are none or empty. -/
import Derived.Test.YtljmekdilhphaaaGreatDoorNil2
import Derived.Test.YtljmekdilhphaaaGreatDoorWhx
import Derived.Test.YtljmekdilhphaaaGreatDoorDs
namespace Go.Proofs.YtljmekdilhphaaaGreatDoor
open Go.RowKit Go.Sort

theorem one_may : mayB 99999999 [(99999999, 1048576)] = true := by decide
theorem segs_one (w : World) (x y : Int) : SegsAt (w.alloc (.cells #[.int .i64 x, .int .i64 y] 72)) (.slice (some ⟨w.heap.size, 0, none⟩) 1 1) [(x, y)] :=
  ⟨_, 1, rfl, .inr ⟨w.heap.size, 0, rfl, fun i hi => by
    obtain rfl : i = 0 := by simp at hi; omega
    rw [World.cell?_alloc_at _ _ _ _ rfl, World.cell?_alloc_at _ _ _ _ rfl]
    exact ⟨rfl, rfl⟩⟩⟩

/-- The box of the name at the bounds. -/
def OneAt (w : World) (ob sb : Nat) : Prop := w.cell? ⟨ob, 0, none⟩ = some (.int .i64 99999999) ∧ w.cell? ⟨ob, 1, none⟩ = some (.slice (some ⟨sb, 0, none⟩) 1 1) ∧ SegsAt w (.slice (some ⟨sb, 0, none⟩) 1 1) [(99999999, 1048576)]
theorem OneAt.pure {w w' : World} {ob sb : Nat} (h : OneAt w ob sb) (hb : Below w.heap.size w w') : OneAt w' ob sb :=
  ⟨(hb.cell (p := ⟨ob, 0, none⟩) (ltOfCell h.1)).trans h.1, (hb.cell (p := ⟨ob, 1, none⟩) (ltOfCell h.2.1)).trans h.2.1, h.2.2.pure hb⟩
theorem one_new (w : World) : OneAt ((w.alloc (.cells #[.int .i64 99999999, .int .i64 1048576] 72)).alloc (.cells #[.int .i64 99999999, .slice (some ⟨w.heap.size, 0, none⟩) 1 1] 32)) (w.heap.size + 1) w.heap.size :=
  ⟨by rw [World.cell?_alloc_at _ _ _ _ (by simp)]; rfl, by rw [World.cell?_alloc_at _ _ _ _ (by simp)]; rfl, (segs_one w _ _).pure ((Below.refl _ _).alloc (Nat.le_refl _) _)⟩
theorem box_bz (w : World) (o : Obj) : Below w.heap.size w (w.alloc o) := (Below.refl _ _).alloc (Nat.le_refl _) _
theorem dk0_load : dkLoad 1000 [] = (some ⟨[], 1000, -1, false⟩, 0) := by kernel_rfl
theorem dk0_read : (dkRead ⟨[], 1000, -1, false⟩ fileN).2 = 5 := by decide +kernel
theorem dk0_swap : (dkSwap ⟨[], 1000, -1, false⟩ 99999999 [(99999999, 1048576)]).2 = 0 := by decide +kernel
theorem not_sealed : ¬ Sealed [97, 98, 99, 100, 101, 102, 103, 104] := by
  intro h
  exact absurd h.2 (by decide +kernel)

set_option maxRecDepth 100000 in
set_option maxHeartbeats 8000000 in
theorem ns_end (w wr : World) (qb : Below w.heap.size w wr) (s : ByteArray) (hs : s.size = 1042) {u0 u1 u2 u3 u4 u8 u9 u10 u11 u12 u13 u14 u15 u16 u17 u18 u19 u20 u21 u22 u23 u24 u25 u26 u27 u28 u29 u30 u31 u32 u33 u34 u35 u36 u37 u38 u39 u40 u41 u42 u43 u44 u45 u46 u47 u48 u49 u50 u51 u52 u53 u54 u55 u56 u57 u58 u59 u60 u61 u62 u63 u64 u65 u66 u67 u68 u69 u70 u71 u72 u73 u74 u75 u76 u77 u78 u79 u80 u81 u82 u83 u84 u85 u86 u87 u88 u89 u90 u91 u92 u93 u94 u95 u96 u97 u98 u99 u100 u101 u102 u103 u104 u105 u106 u107 u108 u109 u110 u111 u112 u113 u114 u115 u116 u117 u118 u119 u120 u121 u122 u123 u124 u125 u126 u127 u128 u129 u130 u131 u132 u133 u134 u135 u136 u137 u138 u139 u140 u141 u142 u143 u144 u145 u146 u147 u148 u149 u150 u151 u152 u153 u154 u155 u156 u157 u158 u159 u160 u161 u162 u163 u164 u165 u166 u167 u168 u169 u170 u171 u172 u173 u174 u175 u176 u177 u178 u179 u180 u181 u182 u183 u184 u185 u186 u187 u188 u189 u190 u191 u192 u193 u194 u195 u196 u197 u198 : Value} :
    Code.wp Tryz.prog (dropS 8 (Tryz.f7.body.getD .skip)) (bodyPost Tryz.prog Tryz.f7 fun e w' => e = .returned (.bool true) ∧ Below w.heap.size w w') { tmps := (List.toArray (u0 :: u1 :: u2 :: u3 :: u4 :: .int .i64 4 :: .string s :: .int .i64 0 :: u8 :: u9 :: u10 :: u11 :: u12 :: u13 :: u14 :: u15 :: u16 :: u17 :: u18 :: u19 :: u20 :: u21 :: u22 :: u23 :: u24 :: u25 :: u26 :: u27 :: u28 :: u29 :: u30 :: u31 :: u32 :: u33 :: u34 :: u35 :: u36 :: u37 :: u38 :: u39 :: u40 :: u41 :: u42 :: u43 :: u44 :: u45 :: u46 :: u47 :: u48 :: u49 :: u50 :: u51 :: u52 :: u53 :: u54 :: u55 :: u56 :: u57 :: u58 :: u59 :: u60 :: u61 :: u62 :: u63 :: u64 :: u65 :: u66 :: u67 :: u68 :: u69 :: u70 :: u71 :: u72 :: u73 :: u74 :: u75 :: u76 :: u77 :: u78 :: u79 :: u80 :: u81 :: u82 :: u83 :: u84 :: u85 :: u86 :: u87 :: u88 :: u89 :: u90 :: u91 :: u92 :: u93 :: u94 :: u95 :: u96 :: u97 :: u98 :: u99 :: u100 :: u101 :: u102 :: u103 :: u104 :: u105 :: u106 :: u107 :: u108 :: u109 :: u110 :: u111 :: u112 :: u113 :: u114 :: u115 :: u116 :: u117 :: u118 :: u119 :: u120 :: u121 :: u122 :: u123 :: u124 :: u125 :: u126 :: u127 :: u128 :: u129 :: u130 :: u131 :: u132 :: u133 :: u134 :: u135 :: u136 :: u137 :: u138 :: u139 :: u140 :: u141 :: u142 :: u143 :: u144 :: u145 :: u146 :: u147 :: u148 :: u149 :: u150 :: u151 :: u152 :: u153 :: u154 :: u155 :: u156 :: u157 :: u158 :: u159 :: u160 :: u161 :: u162 :: u163 :: u164 :: u165 :: u166 :: u167 :: u168 :: u169 :: u170 :: u171 :: u172 :: u173 :: u174 :: u175 :: u176 :: u177 :: u178 :: u179 :: u180 :: u181 :: u182 :: u183 :: u184 :: u185 :: u186 :: u187 :: u188 :: u189 :: u190 :: u191 :: u192 :: u193 :: u194 :: u195 :: u196 :: u197 :: u198 :: [])), defers := [] } wr := by
  have HB := Lib.hid qb
  clear qb
  conv => arg 2; whnf
  go_wp2_with fail
  have hbz := box2_below' wr (.cells #[.int .i64 99999999, .int .i64 1048576] 72) (.cells #[.int .i64 99999999, .slice (some ⟨wr.heap.size, 0, none⟩) 1 1] 32)
  have O1 := one_new wr
  have B1 := Lib.hid (HB.out.trans (hbz.mono HB.out.size))
  generalize ((wr.alloc (.cells #[.int .i64 99999999, .int .i64 1048576] 72)).alloc (.cells #[.int .i64 99999999, .slice (some ⟨wr.heap.size, 0, none⟩) 1 1] 32)) = w1 at *
  generalize wr.heap.size + 1 = ob at *
  generalize wr.heap.size = sb at *
  have OO1 := Lib.hid O1
  clear hbz O1 HB
  refine (load_nil w1).mono ?_
  rintro e w2 ⟨rfl, hb2⟩
  unfold noMan
  have B2 := Lib.hid (B1.out.trans (hb2.mono B1.out.size))
  have O2 := Lib.hid (OO1.out.pure hb2)
  clear hb2
  go_wp2_with fail
  have hbz := box_bz w2 (.cells #[.int .i64 0, .slice none 0 0] 32)
  refine (read_short ⟨#[97, 98, 99]⟩ _ (by decide)).mono ?_
  rintro e w3 ⟨rfl, hb3⟩
  unfold noMan
  have hb3 := hbz.trans (hb3.mono hbz.size)
  have B3 := Lib.hid (B2.out.trans (hb3.mono B2.out.size))
  have O3 := Lib.hid (O2.out.pure hb3)
  clear hb3 hbz
  go_wp2_with fail
  have hbz := box_bz w3 (.cells #[.int .i64 0, .slice none 0 0] 32)
  refine (read_sum ⟨#[97, 98, 99, 100, 101, 102, 103, 104]⟩ _ (by decide) (by decide) not_sealed).mono ?_
  rintro e w4 ⟨rfl, hb4⟩
  unfold noMan
  have hb4 := hbz.trans (hb4.mono hbz.size)
  have B4 := Lib.hid (B3.out.trans (hb4.mono B3.out.size))
  have O4 := Lib.hid (O3.out.pure hb4)
  clear hb4 hbz
  go_wp2_with fail
  have hbz := box_bz w4 (.cells #[.int .i64 0, .slice none 0 0] 32)
  refine (dk_new _ 1000 (by decide)).mono ?_
  rintro e w5 ⟨hb5, hpost⟩
  rw [dk0_load] at hpost
  obtain ⟨p, b, hp, hb, rfl, hd⟩ := hpost
  have hp := Nat.le_trans hbz.size hp
  have hb := Nat.le_trans hbz.size hb
  have hb5 := hbz.trans (hb5.mono hbz.size)
  have B5 := Lib.hid (B4.out.trans (hb5.mono B4.out.size))
  have O5 := Lib.hid (O4.out.pure hb5)
  have HD5 := Lib.hid hd
  have HPB := Lib.hid (And.intro hp hb)
  clear hb5 hbz hd hp hb
  go_wp2_with fail
  refine (load_any w5 p b _ HD5.out (fun g l c => g = 0 ∧ l = [] ∧ c = 5) (fun h => by rw [dk0_read] at h; cases h) (fun _ => ⟨rfl, rfl, dk0_read⟩)).mono ?_
  rintro e w6 ⟨hb6, cd, g, l, v, ⟨rfl, rfl, rfl⟩, hv, hvb, rfl⟩
  have B6 := Lib.hid (B5.out.trans (hb6.mono B5.out.size))
  have O6 := Lib.hid (O5.out.pure hb6)
  have HD6 := Lib.hid (HD5.out.pure hb6)
  obtain ⟨a6, c6, rfl⟩ : ∃ a c, v = .slice a 0 c := hv.at.shape
  clear hb6 hv hvb
  go_wp2_with fail
  have hbz := box_bz w6 (.cells #[.int .i64 0, .slice a6 0 c6] 32)
  have B7 := Lib.hid (B6.out.trans (hbz.mono B6.out.size))
  have O7 := Lib.hid (O6.out.pure hbz)
  have HD7 := Lib.hid (HD6.out.pure hbz)
  obtain ⟨k0, k1, _⟩ := O7.out
  clear hbz
  generalize (w6.alloc (.cells #[.int .i64 0, .slice a6 0 c6] 32)) = w7 at *
  go_wp2_with fail
  refine (size_any w7 64 (by decide) (by decide)).mono ?_
  rintro e w' ⟨rfl, rfl⟩
  rw [show sizeB 64 = 1042 from by decide]
  go_wp2_with fail
  refine (size_any w7 0 (by decide) (by decide)).mono ?_
  rintro e w' ⟨rfl, rfl⟩
  rw [show sizeB 0 = 0 from by decide]
  go_wp2_with fail
  refine (size_any w7 65 (by decide) (by decide)).mono ?_
  rintro e w' ⟨rfl, rfl⟩
  rw [show sizeB 65 = 0 from by decide]
  go_wp2_with fail
  refine (size_any w7 (-1) (by decide) (by decide)).mono ?_
  rintro e w' ⟨rfl, rfl⟩
  rw [show sizeB (-1) = 0 from by decide]
  go_wp2_with fail
  refine (size_any w7 1 (by decide) (by decide)).mono ?_
  rintro e w' ⟨rfl, rfl⟩
  rw [show sizeB 1 = 34 from by decide]
  go_wp2_with fail
  refine (may_any w7 99999999 (.slice (some ⟨sb, 0, none⟩) 1 1) [(99999999, 1048576)] O7.out.2.2 (by decide)).mono ?_
  rintro e w8 ⟨rfl, hb8⟩
  rw [one_may]
  have O8 := Lib.hid (O7.out.pure hb8)
  have B8 := Lib.hid (B7.out.trans (hb8.mono B7.out.size))
  have HD8 := Lib.hid (HD7.out.pure hb8)
  have m0 := O8.out.1
  have m1 := O8.out.2.1
  clear hb8 k0 k1
  go_wp2_with fail
  refine (swap_nil_ok w8 99999999 (.slice (some ⟨sb, 0, none⟩) 1 1) [(99999999, 1048576)] O8.out.2.2 one_may).mono ?_
  rintro e w9 ⟨rfl, hb9⟩
  have O9 := Lib.hid (O8.out.pure hb9)
  have B9 := Lib.hid (B8.out.trans (hb9.mono B8.out.size))
  have HD9 := Lib.hid (HD8.out.pure hb9)
  have n0 := O9.out.1
  have n1 := O9.out.2.1
  clear hb9 m0 m1
  go_wp2_with fail
  refine (swap_ok w9 p b _ HD9.out 99999999 (.slice (some ⟨sb, 0, none⟩) 1 1) [(99999999, 1048576)] O9.out.2.2 (by decide) one_may).mono ?_
  rintro e wa ⟨rfl, hda, hfa⟩
  rw [dk0_swap]
  have B10 := Lib.hid (B9.out.trans (hfa.below (B := w.heap.size) B9.out.size (fun k hk e => by have h1 := HPB.out.1; have h2 := HPB.out.2; have h3 := B4.out.size; omega)))
  clear hda hfa
  go_wp2
  go_ret
  exact ⟨rfl, B10.out⟩
end Go.Proofs.YtljmekdilhphaaaGreatDoor
