/- ManifFound's end: the manifest with a segment more. -/
import Derived.Test.YtljmekdilhphaaaGreatDoorFdP
import Derived.Test.YtljmekdilhphaaaGreatDoorDs
import Derived.Lib.QuietBelow
import Derived.BigQuiet
namespace Go.Proofs.YtljmekdilhphaaaGreatDoor
open Go.RowKit Go.Sort

set_option maxRecDepth 100000 in
set_option maxHeartbeats 8000000 in
theorem fd_tail (w wr : World) (qb : Below w.heap.size w wr) (g : Int) (l : Segs) (a1 : Option Addr) (c1 : Nat) (qs : SegsAt wr (.slice a1 l.length c1) l) (qm : mayB g l = true) (xb eb : Nat) (x y q : Int)
    (m0 : wr.cell? ⟨xb, 0, none⟩ = some (.int .i64 g)) (m1 : wr.cell? ⟨xb, 1, none⟩ = some (.slice a1 l.length c1)) (x0 : wr.cell? ⟨eb, 0, none⟩ = some (.int .i64 x)) (x1 : wr.cell? ⟨eb, 1, none⟩ = some (.int .i64 y)) {u0 u1 u3 u5 u6 u9 u10 u11 u12 u13 u14 u15 u16 u17 u18 u19 u20 u21 u22 u23 u24 u25 u26 u27 u28 u29 u30 u31 u32 u33 u34 u35 u36 u37 u38 u39 u40 u41 u42 u43 u44 u45 u46 u47 u48 u49 u50 u51 u52 u53 u54 u55 u56 u57 u58 u59 u60 u61 u62 u63 u64 u65 u66 u67 u68 u69 u70 u71 u72 u73 u74 u75 u76 u77 u78 u79 u80 u81 u82 u83 u84 u85 u86 u87 u88 u89 u90 u91 u92 u93 u94 u95 u96 u97 u98 u99 u100 u101 u102 u103 u104 u105 u106 u107 u108 u109 u110 u111 u112 u113 u114 u115 u116 u117 u118 u119 u120 u121 u122 u123 u124 u125 u126 u127 u128 u129 u130 u131 u132 u133 u134 u135 u136 u137 u138 u139 u140 u141 u142 u143 u144 u145 u146 u147 u148 u149 u150 u151 u152 u153 u154 u155 u156 u157 u158 u159 u160 u161 u162 u163 u164 u165 u166 u167 u168 u169 u170 u171 u172 u173 u174 u175 u176 u177 u178 u179 u180 u181 u182 u183 u184 u185 u186 u187 u188 u189 u190 u191 u192 u193 u194 u195 u196 u197 u198 u199 u200 u201 u202 u203 u204 u205 u206 u207 u208 u209 u210 u211 u212 u213 u214 u215 u216 u217 u218 u219 u220 u221 u222 u223 : Value} :
    Code.wp Tryz.prog (dropS 9 (Tryz.f9.body.getD .skip)) (bodyPost Tryz.prog Tryz.f9 fun e w' => e = .returned (.bool true) ∧ Below w.heap.size w w') { tmps := (List.toArray (u0 :: u1 :: .int .i64 q :: u3 :: .pointer (some ⟨eb, 0, none⟩) :: u5 :: u6 :: .pointer (some ⟨xb, 0, none⟩) :: .int .i64 (findB l q) :: u9 :: u10 :: u11 :: u12 :: u13 :: u14 :: u15 :: u16 :: u17 :: u18 :: u19 :: u20 :: u21 :: u22 :: u23 :: u24 :: u25 :: u26 :: u27 :: u28 :: u29 :: u30 :: u31 :: u32 :: u33 :: u34 :: u35 :: u36 :: u37 :: u38 :: u39 :: u40 :: u41 :: u42 :: u43 :: u44 :: u45 :: u46 :: u47 :: u48 :: u49 :: u50 :: u51 :: u52 :: u53 :: u54 :: u55 :: u56 :: u57 :: u58 :: u59 :: u60 :: u61 :: u62 :: u63 :: u64 :: u65 :: u66 :: u67 :: u68 :: u69 :: u70 :: u71 :: u72 :: u73 :: u74 :: u75 :: u76 :: u77 :: u78 :: u79 :: u80 :: u81 :: u82 :: u83 :: u84 :: u85 :: u86 :: u87 :: u88 :: u89 :: u90 :: u91 :: u92 :: u93 :: u94 :: u95 :: u96 :: u97 :: u98 :: u99 :: u100 :: u101 :: u102 :: u103 :: u104 :: u105 :: u106 :: u107 :: u108 :: u109 :: u110 :: u111 :: u112 :: u113 :: u114 :: u115 :: u116 :: u117 :: u118 :: u119 :: u120 :: u121 :: u122 :: u123 :: u124 :: u125 :: u126 :: u127 :: u128 :: u129 :: u130 :: u131 :: u132 :: u133 :: u134 :: u135 :: u136 :: u137 :: u138 :: u139 :: u140 :: u141 :: u142 :: u143 :: u144 :: u145 :: u146 :: u147 :: u148 :: u149 :: u150 :: u151 :: u152 :: u153 :: u154 :: u155 :: u156 :: u157 :: u158 :: u159 :: u160 :: u161 :: u162 :: u163 :: u164 :: u165 :: u166 :: u167 :: u168 :: u169 :: u170 :: u171 :: u172 :: u173 :: u174 :: u175 :: u176 :: u177 :: u178 :: u179 :: u180 :: u181 :: u182 :: u183 :: u184 :: u185 :: u186 :: u187 :: u188 :: u189 :: u190 :: u191 :: u192 :: u193 :: u194 :: u195 :: u196 :: u197 :: u198 :: u199 :: u200 :: u201 :: u202 :: u203 :: u204 :: u205 :: u206 :: u207 :: u208 :: u209 :: u210 :: u211 :: u212 :: u213 :: u214 :: u215 :: u216 :: u217 :: u218 :: u219 :: u220 :: u221 :: u222 :: u223 :: [])), defers := [] } wr := by
  obtain ⟨hg0, hg1, hl0, hl1, _⟩ := mayB_all qm
  have HB := Lib.hid qb
  have HS := Lib.hid qs
  have HM := Lib.hid qm
  have hlast := lastF_at (l := l) (by omega)
  obtain ⟨b, o, e1, hb1, hb2, hb3⟩ := qs.at (l.length - 1) (by omega)
  rw [← hlast] at hb2
  subst e1
  have hex : ∃ k : Nat, k + 1 = l.length := ⟨l.length - 1, by omega⟩
  obtain ⟨k1, hk1⟩ := hex
  have HMS := Lib.hid (may_snoc qm x y)
  have HFS := Lib.hid (find_snoc (q := q) (x := x) (y := y) qm)
  clear qb qs qm hlast hb1
  conv => arg 2; whnf
  go_wp2_with fail
  refine (with_ok wr g _ l HS.out HM.out x y).mono ?_
  rintro e w1 ⟨hb, hpost⟩
  have B1 := Lib.hid (HB.out.trans (hb.mono HB.out.size))
  have m0 := (hb.cell (p := ⟨xb, 0, none⟩) (ltOfCell m0)).trans m0
  have m1 := (hb.cell (p := ⟨xb, 1, none⟩) (ltOfCell m1)).trans m1
  have x0 := (hb.cell (p := ⟨eb, 0, none⟩) (ltOfCell x0)).trans x0
  have x1 := (hb.cell (p := ⟨eb, 1, none⟩) (ltOfCell x1)).trans x1
  have hb2 := (hb.cell (p := ⟨b, o + (l.length - 1) * 2 + 1, none⟩) hb3).trans hb2
  have hxl := ltOfCell m0
  have hel := ltOfCell x0
  have hbl := ltOfCell hb2
  clear hb
  cases hm2 : mayB g (l ++ [(x, y)])
  · rw [hm2] at hpost
    have hno : ¬ (0 ≤ x ∧ x ≤ g ∧ lastF l < y ∧ y ≤ 1048576 ∧ l.length < 64) := fun h => by have h9 := HMS.out.2 h; rw [hm2] at h9; cases h9
    have HNO := Lib.hid hno
    simp only [Bool.false_eq_true, if_false] at hpost
    subst hpost
    clear hno hm2
    unfold noMan
    by_cases k2 : 0 ≤ x
    · by_cases k3 : x ≤ g
      · by_cases k4 : lastF l < y
        · by_cases k5 : y ≤ 1048576
          · have k6 : decide ((l.length : Int) < 64) = false := by simp; have h6 : ¬ l.length < 64 := fun h => HNO.out ⟨k2, k3, k4, k5, h⟩; omega
            go_wp2
            go_ret
            exact ⟨rfl, B1.out.alloc B1.out.size _⟩
          · go_wp2
            go_ret
            exact ⟨rfl, B1.out.alloc B1.out.size _⟩
        · go_wp2
          go_ret
          exact ⟨rfl, B1.out.alloc B1.out.size _⟩
      · go_wp2
        go_ret
        exact ⟨rfl, B1.out.alloc B1.out.size _⟩
    · go_wp2
      go_ret
      exact ⟨rfl, B1.out.alloc B1.out.size _⟩
  · rw [hm2] at hpost
    obtain ⟨v, hv, hvb, rfl⟩ := hpost
    have HM2 := Lib.hid hm2
    obtain ⟨k2, k3, k4, k5, k6⟩ := HMS.out.1 hm2
    clear hm2 hvb
    have hll : (l ++ [(x, y)]).length = l.length + 1 := by simp
    obtain ⟨a2, c2, hsv⟩ := hv.at.shape
    rw [hll] at hsv
    subst hsv
    have HV := Lib.hid hv.at
    have hk6 : decide ((l.length : Int) < 64) = true := by simp; omega
    obtain ⟨f1, f2⟩ := HFS.out HM2.out
    clear hv hll
    have hbz : Below w1.heap.size w1 (w1.alloc (.cells #[.int .i64 g, .slice a2 (l.length + 1) c2] 32)) := (Below.refl _ _).alloc (Nat.le_refl _) _
    have HV2 := Lib.hid (HV.out.pure hbz)
    have B2 := Lib.hid (B1.out.trans (hbz.mono B1.out.size))
    clear hbz
    by_cases hq : q < y
    · have F := Lib.hid (f2 hq)
      clear f1 f2
      go_wp2_with fail
      refine (find_any _ g (.slice a2 (l.length + 1) c2) (l ++ [(x, y)]) HV2.out (by simp; omega) q).mono ?_
      rintro e w3 ⟨rfl, hb3⟩
      rw [F.out]
      have B3 := Lib.hid (B2.out.trans (hb3.mono B2.out.size))
      have m0 := (hb3.cell (p := ⟨xb, 0, none⟩) (by simp; omega)).trans ((World.cell?_alloc_past _ _ _ hxl).trans m0)
      have m1 := (hb3.cell (p := ⟨xb, 1, none⟩) (by simp; omega)).trans ((World.cell?_alloc_past _ _ _ hxl).trans m1)
      have y0 := (hb3.cell (p := ⟨w1.heap.size, 0, none⟩) (by simp)).trans (World.cell?_alloc_at _ _ _ _ rfl)
      have y1 := (hb3.cell (p := ⟨w1.heap.size, 1, none⟩) (by simp)).trans (World.cell?_alloc_at _ _ _ _ rfl)
      clear hb3
      have y0 : w3.cell? ⟨w1.heap.size, 0, none⟩ = some (.int .i64 g) := y0
      have y1 : w3.cell? ⟨w1.heap.size, 1, none⟩ = some (.slice a2 (l.length + 1) c2) := y1
      go_wp2
      go_ret
      exact ⟨rfl, B3.out⟩
    · have F := Lib.hid (f1 (by omega))
      clear f1 f2
      go_wp2_with fail
      have y0 : (w1.alloc (.cells #[.int .i64 g, .slice a2 (l.length + 1) c2] 32)).cell? ⟨w1.heap.size, 0, none⟩ = some (.int .i64 g) := World.cell?_alloc_at _ _ _ _ rfl
      have y1 : (w1.alloc (.cells #[.int .i64 g, .slice a2 (l.length + 1) c2] 32)).cell? ⟨w1.heap.size, 1, none⟩ = some (.slice a2 (l.length + 1) c2) := World.cell?_alloc_at _ _ _ _ rfl
      have z1 : (w1.alloc (.cells #[.int .i64 g, .slice a2 (l.length + 1) c2] 32)).cell? ⟨xb, 1, none⟩ = some (.slice (some ⟨b, o, none⟩) l.length c1) := (World.cell?_alloc_past _ _ _ hxl).trans m1
      generalize (w1.alloc (.cells #[.int .i64 g, .slice a2 (l.length + 1) c2] 32)) = w2 at *
      have r0 := cell_regrown y0
      have r1 := cell_regrown y1
      have r2 := cell_regrown z1
      have q1 : ∀ d os, Calls Tryz.prog 41 #[.agg #[.int .i64 g, .slice a2 (l.length + 1) c2], .int .i64 q] (grow (redrawn w2 d) os) fun e w'' => e = .returned (.int .i64 (l.length : Int)) ∧ ∃ p : Regrown, w'' = grow (redrawn w2 p.d) p.os := fun d os => Calls.regrown_of (F.out ▸ find_any _ g (.slice a2 (l.length + 1) c2) (l ++ [(x, y)]) (HV2.out.pure (below_regrown w2 d os)) (by simp; omega) q)
      refine wp_region_quiet_below (by kernel_rfl) (by kernel_rfl) ?_
      repeat (go_big_quiet_step (first | exact q1 _ _))
      refine wpQuiet_nil ?_
      intro _ hw'
      obtain ⟨⟨dq, osq⟩, hw''⟩ := hw'
      subst hw''
      have HG := Lib.hid (B2.out.trans ((below_regrown w2 dq osq).mono B2.out.size))
      clear r0 r1 r2 q1
      go_wp2
      go_ret
      exact ⟨rfl, HG.out⟩
end Go.Proofs.YtljmekdilhphaaaGreatDoor
