/- ManifNames' loop over the manifests that may not be. -/
import Derived.Test.YtljmekdilhphaaaGreatDoorNsB
import Derived.Deep.DeepCutAuto
namespace Go.Proofs.YtljmekdilhphaaaGreatDoor
open Go.RowKit Go.Sort

set_option maxRecDepth 100000 in
set_option maxHeartbeats 8000000 in
theorem ns_box (w wr : World) (qb : Below w.heap.size w wr) (s : ByteArray) (hs : s.size = 1042) (mb : Nat) (a : Option Addr) (c : Nat) (m0 : wr.cell? ⟨mb, 0, none⟩ = some (.int .i64 0)) (m1 : wr.cell? ⟨mb, 1, none⟩ = some (.slice a 65 c)) (hm : SegsAt wr (.slice a 65 c) moreL) {u0 u1 u2 u4 u8 u9 u10 u11 u12 u13 u14 u15 u16 u17 u18 u19 u20 u21 u22 u23 u24 u25 u26 u27 u28 u29 u30 u31 u32 u33 u34 u35 u36 u37 u38 u39 u40 u41 u42 u43 u44 u45 u46 u47 u48 u49 u50 u51 u52 u53 u54 u55 u56 u57 u58 u59 u60 u61 u62 u63 u64 u65 u66 u67 u68 u69 u70 u71 u72 u73 u74 u75 u76 u77 u78 u79 u80 u81 u82 u83 u84 u85 u86 u87 u88 u89 u90 u91 u92 u93 u94 u95 u96 u97 u98 u99 u100 u101 u102 u103 u104 u105 u106 u107 u108 u109 u110 u111 u112 u113 u114 u115 u116 u117 u118 u119 u120 u121 u122 u123 u124 u125 u126 u127 u128 u129 u130 u131 u132 u133 u134 u135 u136 u137 u138 u139 u140 u141 u142 u143 u144 u145 u146 u147 u148 u149 u150 u151 u152 u153 u154 u155 u156 u157 u158 u159 u160 u161 u162 u163 u164 u165 u166 u167 u168 u169 u170 u171 u172 u173 u174 u175 u176 u177 u178 u179 u180 u181 u182 u183 u184 u185 u186 u187 u188 u189 u190 u191 u192 u193 u194 u195 u196 u197 u198 : Value} :
    Code.wp Tryz.prog (dropS 7 (Tryz.f7.body.getD .skip)) (bodyPost Tryz.prog Tryz.f7 fun e w' => e = .returned (.bool true) ∧ Below w.heap.size w w') { tmps := (List.toArray (u0 :: u1 :: u2 :: .pointer (some ⟨mb, 0, none⟩) :: u4 :: .int .i64 4 :: .string s :: .int .i64 0 :: u8 :: u9 :: u10 :: u11 :: u12 :: u13 :: u14 :: u15 :: u16 :: u17 :: u18 :: u19 :: u20 :: u21 :: u22 :: u23 :: u24 :: u25 :: u26 :: u27 :: u28 :: u29 :: u30 :: u31 :: u32 :: u33 :: u34 :: u35 :: u36 :: u37 :: u38 :: u39 :: u40 :: u41 :: u42 :: u43 :: u44 :: u45 :: u46 :: u47 :: u48 :: u49 :: u50 :: u51 :: u52 :: u53 :: u54 :: u55 :: u56 :: u57 :: u58 :: u59 :: u60 :: u61 :: u62 :: u63 :: u64 :: u65 :: u66 :: u67 :: u68 :: u69 :: u70 :: u71 :: u72 :: u73 :: u74 :: u75 :: u76 :: u77 :: u78 :: u79 :: u80 :: u81 :: u82 :: u83 :: u84 :: u85 :: u86 :: u87 :: u88 :: u89 :: u90 :: u91 :: u92 :: u93 :: u94 :: u95 :: u96 :: u97 :: u98 :: u99 :: u100 :: u101 :: u102 :: u103 :: u104 :: u105 :: u106 :: u107 :: u108 :: u109 :: u110 :: u111 :: u112 :: u113 :: u114 :: u115 :: u116 :: u117 :: u118 :: u119 :: u120 :: u121 :: u122 :: u123 :: u124 :: u125 :: u126 :: u127 :: u128 :: u129 :: u130 :: u131 :: u132 :: u133 :: u134 :: u135 :: u136 :: u137 :: u138 :: u139 :: u140 :: u141 :: u142 :: u143 :: u144 :: u145 :: u146 :: u147 :: u148 :: u149 :: u150 :: u151 :: u152 :: u153 :: u154 :: u155 :: u156 :: u157 :: u158 :: u159 :: u160 :: u161 :: u162 :: u163 :: u164 :: u165 :: u166 :: u167 :: u168 :: u169 :: u170 :: u171 :: u172 :: u173 :: u174 :: u175 :: u176 :: u177 :: u178 :: u179 :: u180 :: u181 :: u182 :: u183 :: u184 :: u185 :: u186 :: u187 :: u188 :: u189 :: u190 :: u191 :: u192 :: u193 :: u194 :: u195 :: u196 :: u197 :: u198 :: [])), defers := [] } wr := by
  have HB := Lib.hid qb
  have HS := Lib.hid hs
  obtain ⟨ht, hbz⟩ := tab_new wr a c hm
  have HT := Lib.hid ht
  have HZ := Lib.hid hbz
  clear qb hm ht hbz hs
  conv => arg 2; whnf
  go_upto_block 2 with fail
  go_cut [85] (fun _ wx => Below w.heap.size w wx)
  case first =>
    go_wp2_with fail
    have HT1 : BadTab (((((((((wr.alloc (.cells #[.int .i64 0, .int .i64 0] 72)).alloc (.cells #[.int .i64 0, .int .i64 0] 72)).alloc (.cells #[.int .i64 1, .int .i64 0] 72)).alloc (.cells #[.int .i64 (-1), .int .i64 0] 72)).alloc (.cells #[.int .i64 0, .int .i64 (-1)] 72)).alloc (.cells #[.int .i64 0, .int .i64 1048577] 72)).alloc (.cells #[.int .i64 0, .int .i64 7, .int .i64 0, .int .i64 7] 72)).alloc (.cells #[.int .i64 0, .int .i64 8, .int .i64 0, .int .i64 7] 72)).alloc (.cells #[.int .i64 0, .slice none 0 0, .int .i64 0, .slice a 65 c, .int .i64 (-1), .slice (some ⟨wr.heap.size, 0, none⟩) 1 1, .int .i64 100000000, .slice (some ⟨wr.heap.size + 1, 0, none⟩) 1 1, .int .i64 0, .slice (some ⟨wr.heap.size + 1 + 1, 0, none⟩) 1 1, .int .i64 0, .slice (some ⟨wr.heap.size + 1 + 1 + 1, 0, none⟩) 1 1, .int .i64 0, .slice (some ⟨wr.heap.size + 1 + 1 + 1 + 1, 0, none⟩) 1 1, .int .i64 0, .slice (some ⟨wr.heap.size + 1 + 1 + 1 + 1 + 1, 0, none⟩) 1 1, .int .i64 0, .slice (some ⟨wr.heap.size + 1 + 1 + 1 + 1 + 1 + 1, 0, none⟩) 2 2, .int .i64 0, .slice (some ⟨wr.heap.size + 1 + 1 + 1 + 1 + 1 + 1 + 1, 0, none⟩) 2 2] 32)) (wr.heap.size + 1 + 1 + 1 + 1 + 1 + 1 + 1 + 1) := HT.out
    have HZ1 : Below w.heap.size w (((((((((wr.alloc (.cells #[.int .i64 0, .int .i64 0] 72)).alloc (.cells #[.int .i64 0, .int .i64 0] 72)).alloc (.cells #[.int .i64 1, .int .i64 0] 72)).alloc (.cells #[.int .i64 (-1), .int .i64 0] 72)).alloc (.cells #[.int .i64 0, .int .i64 (-1)] 72)).alloc (.cells #[.int .i64 0, .int .i64 1048577] 72)).alloc (.cells #[.int .i64 0, .int .i64 7, .int .i64 0, .int .i64 7] 72)).alloc (.cells #[.int .i64 0, .int .i64 8, .int .i64 0, .int .i64 7] 72)).alloc (.cells #[.int .i64 0, .slice none 0 0, .int .i64 0, .slice a 65 c, .int .i64 (-1), .slice (some ⟨wr.heap.size, 0, none⟩) 1 1, .int .i64 100000000, .slice (some ⟨wr.heap.size + 1, 0, none⟩) 1 1, .int .i64 0, .slice (some ⟨wr.heap.size + 1 + 1, 0, none⟩) 1 1, .int .i64 0, .slice (some ⟨wr.heap.size + 1 + 1 + 1, 0, none⟩) 1 1, .int .i64 0, .slice (some ⟨wr.heap.size + 1 + 1 + 1 + 1, 0, none⟩) 1 1, .int .i64 0, .slice (some ⟨wr.heap.size + 1 + 1 + 1 + 1 + 1, 0, none⟩) 1 1, .int .i64 0, .slice (some ⟨wr.heap.size + 1 + 1 + 1 + 1 + 1 + 1, 0, none⟩) 2 2, .int .i64 0, .slice (some ⟨wr.heap.size + 1 + 1 + 1 + 1 + 1 + 1 + 1, 0, none⟩) 2 2] 32)) := HB.out.trans (HZ.out.mono HB.out.size)
    clear HT HZ HB
    generalize (((((((((wr.alloc (.cells #[.int .i64 0, .int .i64 0] 72)).alloc (.cells #[.int .i64 0, .int .i64 0] 72)).alloc (.cells #[.int .i64 1, .int .i64 0] 72)).alloc (.cells #[.int .i64 (-1), .int .i64 0] 72)).alloc (.cells #[.int .i64 0, .int .i64 (-1)] 72)).alloc (.cells #[.int .i64 0, .int .i64 1048577] 72)).alloc (.cells #[.int .i64 0, .int .i64 7, .int .i64 0, .int .i64 7] 72)).alloc (.cells #[.int .i64 0, .int .i64 8, .int .i64 0, .int .i64 7] 72)).alloc (.cells #[.int .i64 0, .slice none 0 0, .int .i64 0, .slice a 65 c, .int .i64 (-1), .slice (some ⟨wr.heap.size, 0, none⟩) 1 1, .int .i64 100000000, .slice (some ⟨wr.heap.size + 1, 0, none⟩) 1 1, .int .i64 0, .slice (some ⟨wr.heap.size + 1 + 1, 0, none⟩) 1 1, .int .i64 0, .slice (some ⟨wr.heap.size + 1 + 1 + 1, 0, none⟩) 1 1, .int .i64 0, .slice (some ⟨wr.heap.size + 1 + 1 + 1 + 1, 0, none⟩) 1 1, .int .i64 0, .slice (some ⟨wr.heap.size + 1 + 1 + 1 + 1 + 1, 0, none⟩) 1 1, .int .i64 0, .slice (some ⟨wr.heap.size + 1 + 1 + 1 + 1 + 1 + 1, 0, none⟩) 2 2, .int .i64 0, .slice (some ⟨wr.heap.size + 1 + 1 + 1 + 1 + 1 + 1 + 1, 0, none⟩) 2 2] 32)) = w1 at *
    generalize wr.heap.size + 1 + 1 + 1 + 1 + 1 + 1 + 1 + 1 = tb at *
    clear m0 m1
    go_loopw [85] (fun i W => ∃ k : Nat, i = .int .i64 (k : Int) ∧ k ≤ 10 ∧ BadTab W tb ∧ Below w.heap.size w W) (fun i _ => 10 - (intOf i).toNat)
    case atStart => exact ⟨0, rfl, by omega, HT1, HZ1⟩
    case round =>
      obtain ⟨k, rfl, hk, hT, hB⟩ := hrel
      have B1 := Lib.hid hB
      have T1 := Lib.hid hT
      clear hB hT HT1 HZ1
      by_cases hlt : k < 10
      · obtain ⟨g, a1, l, c1, t0, t1, hS, hl, hbad⟩ := T1.out k hlt
        have HSG := Lib.hid hS
        have HBAD := Lib.hid hbad
        have htl := ltOfCell t0
        clear hS hbad
        go_wp2_with fail
        have hbz := box_bz wr (.cells #[.int .i64 g, .slice a1 l.length c1] 32)
        have B2 := Lib.hid (B1.out.trans (hbz.mono B1.out.size))
        have T2 := Lib.hid (T1.out.pure hbz)
        have S2 := Lib.hid (HSG.out.pure hbz)
        have x0 : (wr.alloc (.cells #[.int .i64 g, .slice a1 l.length c1] 32)).cell? ⟨wr.heap.size, 0, none⟩ = some (.int .i64 g) := by rw [World.cell?_alloc_at _ _ _ _ rfl]; rfl
        have x1 : (wr.alloc (.cells #[.int .i64 g, .slice a1 l.length c1] 32)).cell? ⟨wr.heap.size, 1, none⟩ = some (.slice a1 l.length c1) := by rw [World.cell?_alloc_at _ _ _ _ rfl]; rfl
        clear hbz t0 t1 htl
        generalize (wr.alloc (.cells #[.int .i64 g, .slice a1 l.length c1] 32)) = w2 at *
        generalize wr.heap.size = xb at *
        refine (make_bad w2 g (.slice a1 l.length c1) l S2.out (by omega) HBAD.out).mono ?_
        rintro e w3 ⟨rfl, hb3⟩
        have x2 := (hb3.cell (p := ⟨xb, 0, none⟩) (ltOfCell x0)).trans x0
        have x3 := (hb3.cell (p := ⟨xb, 1, none⟩) (ltOfCell x1)).trans x1
        have B3 := Lib.hid (B2.out.trans (hb3.mono B2.out.size))
        have T3 := Lib.hid (T2.out.pure hb3)
        have S3 := Lib.hid (S2.out.pure hb3)
        clear hb3 x0 x1
        go_wp2_with fail
        refine (may_any w3 g (.slice a1 l.length c1) l S3.out (by omega)).mono ?_
        rintro e w4 ⟨rfl, hb4⟩
        rw [HBAD.out]
        have x4 := (hb4.cell (p := ⟨xb, 0, none⟩) (ltOfCell x2)).trans x2
        have x5 := (hb4.cell (p := ⟨xb, 1, none⟩) (ltOfCell x3)).trans x3
        have B4 := Lib.hid (B3.out.trans (hb4.mono B3.out.size))
        have T4 := Lib.hid (T3.out.pure hb4)
        have S4 := Lib.hid (S3.out.pure hb4)
        clear hb4 x2 x3
        go_wp2_with fail
        refine (names_bad w4 g (.slice a1 l.length c1) l S4.out (by omega) HBAD.out).mono ?_
        rintro e w5 ⟨rfl, hb5⟩
        have x6 := (hb5.cell (p := ⟨xb, 0, none⟩) (ltOfCell x4)).trans x4
        have x7 := (hb5.cell (p := ⟨xb, 1, none⟩) (ltOfCell x5)).trans x5
        have B5 := Lib.hid (B4.out.trans (hb5.mono B4.out.size))
        have T5 := Lib.hid (T4.out.pure hb5)
        have S5 := Lib.hid (S4.out.pure hb5)
        clear hb5 x4 x5
        go_wp2_with fail
        refine (swap_nil_bad w5 g (.slice a1 l.length c1) l S5.out (by omega) HBAD.out).mono ?_
        rintro e w6 ⟨rfl, hb6⟩
        have B6 := Lib.hid (B5.out.trans (hb6.mono B5.out.size))
        have T6 := Lib.hid (T5.out.pure hb6)
        clear hb6 x6 x7
        go_wp2_with fail
        go_roundw
        case rel => exact ⟨k + 1, by go_num, by omega, T6.out, B6.out⟩
        case measure => simp [intOf]; omega
      · obtain rfl : k = 10 := by omega
        go_wp2_with fail
        go_meet
        exact B1.out
  case rest =>
    apply_assumption
    exact ns_end w _ hcut s HS.out
end Go.Proofs.YtljmekdilhphaaaGreatDoor
