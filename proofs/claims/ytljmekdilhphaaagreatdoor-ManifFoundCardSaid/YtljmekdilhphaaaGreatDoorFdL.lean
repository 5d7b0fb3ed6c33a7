/- ManifFound's loop over the names. -/
import Derived.Test.YtljmekdilhphaaaGreatDoorFdT
import Derived.Test.YtljmekdilhphaaaGreatDoorNd
import Derived.Test.YtljmekdilhphaaaGreatDoorBack
import Derived.Deep.DeepCutAuto
import Derived.Deep.CutBlock
namespace Go.Proofs.YtljmekdilhphaaaGreatDoor
open Go.RowKit Go.Sort

theorem named_int (w : World) (hp : Pow w) (hm : Mxl w) (s : ByteArray) (x : Int × Int) (h : 0 ≤ x.1 ∧ x.1 ≤ 99999999 ∧ 0 ≤ x.2 ∧ x.2 ≤ 1048576) (hs : s.data.toList = nameOf x) :
    Calls Tryz.prog 42 #[.string s] w fun e w' => e = .returned (.tuple #[.int .i64 x.1, .int .i64 x.2, .bool true]) ∧ Below w.heap.size w w' := by
  obtain ⟨a, b⟩ := x
  obtain ⟨h1, h2, h3, h4⟩ := h
  obtain ⟨p, hp1⟩ := Int.eq_ofNat_of_zero_le h1
  obtain ⟨q, hq1⟩ := Int.eq_ofNat_of_zero_le h3
  simp only at hp1 hq1 h2 h4
  subst hp1 hq1
  exact named_ok w hp hm p q (by omega) (by omega) s hs
theorem segs_lt {g : Int} {l : Segs} : ∀ {last : Int}, segsOk g last l = true → ∀ {i j : Nat} (hi : i < l.length) (hj : j < i), (l[j]'(by omega)).2 < l[i].2 := by
  induction l with
  | nil => intro _ _ i j hi; simp at hi
  | cons s r ih =>
    intro last h i j hi hj
    have h2 : segsOk g s.2 r = true := by simp only [segsOk, Bool.and_eq_true] at h; exact h.2
    cases i with
    | zero => omega
    | succ i =>
      have hi' : i < r.length := by simpa using hi
      cases j with
      | zero => exact segsOk_gt h2 _ (List.getElem_mem hi')
      | succ j => exact ih h2 hi' (by omega)

theorem name_ne {g : Int} {l : Segs} (hm : mayB g l = true) {i j : Nat} (hi : i < l.length) (hj : j < i) : nameOf (l[j]'(by omega)) ≠ nameOf l[i] := by
  obtain ⟨_, hg1, _, _, hall⟩ := mayB_all hm
  obtain ⟨a1, a2, a3, a4⟩ := hall i hi
  obtain ⟨b1, b2, b3, b4⟩ := hall j (by omega)
  intro e
  unfold nameOf at e
  obtain ⟨p, hp⟩ := Int.eq_ofNat_of_zero_le a1
  obtain ⟨q, hq⟩ := Int.eq_ofNat_of_zero_le a3
  obtain ⟨r, hr⟩ := Int.eq_ofNat_of_zero_le b1
  obtain ⟨s, hs⟩ := Int.eq_ofNat_of_zero_le b3
  rw [hp, hq, hr, hs] at e
  obtain ⟨_, e2⟩ := segName_inj (by omega) (by omega) (by omega) (by omega) e
  have hlt : l[j].2 < l[i].2 := segs_lt (may_segs hm) hi hj
  omega

set_option maxRecDepth 100000 in
set_option maxHeartbeats 8000000 in
theorem fd_loop (w ws : World) (qb : Below w.heap.size w ws) (qp : Pow ws) (qx : Mxl ws) (g : Int) (l : Segs) (a1 : Option Addr) (c1 : Nat) (qs : SegsAt ws (.slice a1 l.length c1) l) (qm : mayB g l = true) (xb eb : Nat) (x y q : Int)
    (m0 : ws.cell? ⟨xb, 0, none⟩ = some (.int .i64 g)) (m1 : ws.cell? ⟨xb, 1, none⟩ = some (.slice a1 l.length c1)) (x0 : ws.cell? ⟨eb, 0, none⟩ = some (.int .i64 x)) (x1 : ws.cell? ⟨eb, 1, none⟩ = some (.int .i64 y))
    (na : Option Addr) (nc : Nat) (qr : ∀ i (hi : i < (l.map nameOf).length), ∃ g, na = some ⟨g, 0, none⟩ ∧ w.heap.size ≤ w.heap.size ∧ ws.cell? ⟨g, i, none⟩ = some (.string ⟨((l.map nameOf)[i]).toArray⟩)) {u0 u1 u3 u5 u6 u10 u11 u12 u13 u14 u15 u16 u17 u18 u19 u20 u21 u22 u23 u24 u25 u26 u27 u28 u29 u30 u31 u32 u33 u34 u35 u36 u37 u38 u39 u40 u41 u42 u43 u44 u45 u46 u47 u48 u49 u50 u51 u52 u53 u54 u55 u56 u57 u58 u59 u60 u61 u62 u63 u64 u65 u66 u67 u68 u69 u70 u71 u72 u73 u74 u75 u76 u77 u78 u79 u80 u81 u82 u83 u84 u85 u86 u87 u88 u89 u90 u91 u92 u93 u94 u95 u96 u97 u98 u99 u100 u101 u102 u103 u104 u105 u106 u107 u108 u109 u110 u111 u112 u113 u114 u115 u116 u117 u118 u119 u120 u121 u122 u123 u124 u125 u126 u127 u128 u129 u130 u131 u132 u133 u134 u135 u136 u137 u138 u139 u140 u141 u142 u143 u144 u145 u146 u147 u148 u149 u150 u151 u152 u153 u154 u155 u156 u157 u158 u159 u160 u161 u162 u163 u164 u165 u166 u167 u168 u169 u170 u171 u172 u173 u174 u175 u176 u177 u178 u179 u180 u181 u182 u183 u184 u185 u186 u187 u188 u189 u190 u191 u192 u193 u194 u195 u196 u197 u198 u199 u200 u201 u202 u203 u204 u205 u206 u207 u208 u209 u210 u211 u212 u213 u214 u215 u216 u217 u218 u219 u220 u221 u222 u223 : Value} :
    Code.wp Tryz.prog (dropS 8 (Tryz.f9.body.getD .skip)) (bodyPost Tryz.prog Tryz.f9 fun e w' => e = .returned (.bool true) ∧ Below w.heap.size w w') { tmps := (List.toArray (u0 :: u1 :: .int .i64 q :: u3 :: .pointer (some ⟨eb, 0, none⟩) :: u5 :: u6 :: .pointer (some ⟨xb, 0, none⟩) :: .int .i64 (findB l q) :: .slice na l.length nc :: u10 :: u11 :: u12 :: u13 :: u14 :: u15 :: u16 :: u17 :: u18 :: u19 :: u20 :: u21 :: u22 :: u23 :: u24 :: u25 :: u26 :: u27 :: u28 :: u29 :: u30 :: u31 :: u32 :: u33 :: u34 :: u35 :: u36 :: u37 :: u38 :: u39 :: u40 :: u41 :: u42 :: u43 :: u44 :: u45 :: u46 :: u47 :: u48 :: u49 :: u50 :: u51 :: u52 :: u53 :: u54 :: u55 :: u56 :: u57 :: u58 :: u59 :: u60 :: u61 :: u62 :: u63 :: u64 :: u65 :: u66 :: u67 :: u68 :: u69 :: u70 :: u71 :: u72 :: u73 :: u74 :: u75 :: u76 :: u77 :: u78 :: u79 :: u80 :: u81 :: u82 :: u83 :: u84 :: u85 :: u86 :: u87 :: u88 :: u89 :: u90 :: u91 :: u92 :: u93 :: u94 :: u95 :: u96 :: u97 :: u98 :: u99 :: u100 :: u101 :: u102 :: u103 :: u104 :: u105 :: u106 :: u107 :: u108 :: u109 :: u110 :: u111 :: u112 :: u113 :: u114 :: u115 :: u116 :: u117 :: u118 :: u119 :: u120 :: u121 :: u122 :: u123 :: u124 :: u125 :: u126 :: u127 :: u128 :: u129 :: u130 :: u131 :: u132 :: u133 :: u134 :: u135 :: u136 :: u137 :: u138 :: u139 :: u140 :: u141 :: u142 :: u143 :: u144 :: u145 :: u146 :: u147 :: u148 :: u149 :: u150 :: u151 :: u152 :: u153 :: u154 :: u155 :: u156 :: u157 :: u158 :: u159 :: u160 :: u161 :: u162 :: u163 :: u164 :: u165 :: u166 :: u167 :: u168 :: u169 :: u170 :: u171 :: u172 :: u173 :: u174 :: u175 :: u176 :: u177 :: u178 :: u179 :: u180 :: u181 :: u182 :: u183 :: u184 :: u185 :: u186 :: u187 :: u188 :: u189 :: u190 :: u191 :: u192 :: u193 :: u194 :: u195 :: u196 :: u197 :: u198 :: u199 :: u200 :: u201 :: u202 :: u203 :: u204 :: u205 :: u206 :: u207 :: u208 :: u209 :: u210 :: u211 :: u212 :: u213 :: u214 :: u215 :: u216 :: u217 :: u218 :: u219 :: u220 :: u221 :: u222 :: u223 :: [])), defers := [] } ws := by
  obtain ⟨hg0, hg1, hl0, hl1, hall⟩ := mayB_all qm
  have HB := Lib.hid qb
  have HP := Lib.hid qp
  have HX := Lib.hid qx
  have HS := Lib.hid qs
  have HM := Lib.hid qm
  have HR := Lib.hid qr
  have HALL := Lib.hid hall
  obtain ⟨fk, hfk⟩ : ∃ fk, fk = findB l q := ⟨_, rfl⟩
  rw [← hfk]
  have HFK := Lib.hid hfk
  have HC := Lib.hid (And.intro m0 (And.intro m1 (And.intro x0 x1)))
  clear qb qp qx qs qm qr hall hfk m0 m1 x0 x1
  conv => arg 2; whnf
  go_upto_block 0 with fail
  go_cut [10] (fun _ wx => Below ws.heap.size ws wx)
  case first =>
    go_wp2_with fail
    go_loopw [10] (fun i wx => ∃ k : Nat, i = .int .i64 k ∧ k ≤ l.length ∧ Below ws.heap.size ws wx) (fun i _ => l.length - (intOf i).toNat)
    case atStart => exact ⟨0, rfl, by omega, Below.refl _ _⟩
    case round =>
      obtain ⟨k, rfl, hk, hb⟩ := hrel
      have HBX := Lib.hid hb
      have m0 := (hb.cell (p := ⟨xb, 0, none⟩) (ltOfCell HC.out.1)).trans HC.out.1
      have m1 := (hb.cell (p := ⟨xb, 1, none⟩) (ltOfCell HC.out.2.1)).trans HC.out.2.1
      clear hb
      have B1 := Lib.hid (HB.out.trans (HBX.out.mono HB.out.size))
      by_cases hlt : k < l.length
      · obtain ⟨gn, rfl, _, hcell⟩ := HR.out k (by simpa using hlt)
        obtain ⟨nm, hnm⟩ : ∃ nm : ByteArray, nm = ⟨((l.map nameOf)[k]'(by simpa using hlt)).toArray⟩ := ⟨_, rfl⟩
        rw [← hnm] at hcell
        have hnl : nm.data.toList = nameOf l[k] := by rw [hnm]; simp
        have HNM := Lib.hid hnl
        have hcell := (HBX.out.cell (p := ⟨gn, k, none⟩) (ltOfCell hcell)).trans hcell
        have hk4 := HALL.out k hlt
        have HN := Lib.hid (named_int wr (below_pow HBX.out HP.out) (below_mxl HBX.out HX.out) nm l[k] ⟨hk4.1, by omega, hk4.2.2.1, hk4.2.2.2⟩ hnl)
        clear hnm hnl hk4
        obtain ⟨wo, rfl⟩ : ∃ wo : World, wo = wr := ⟨_, rfl⟩
        go_wp2_with fail
        refine HN.out.mono ?_
        rintro e w2 ⟨rfl, hb2⟩
        obtain ⟨b, o, rfl, hc1, hc2, _⟩ := HS.out.at k hlt
        have hc1 := (hb2.cell (p := ⟨b, o + k * 2, none⟩) (ltOfCell ((HBX.out.cell (p := ⟨b, o + k * 2, none⟩) (ltOfCell hc1)).trans hc1))).trans ((HBX.out.cell (p := ⟨b, o + k * 2, none⟩) (ltOfCell hc1)).trans hc1)
        have hc2 := (hb2.cell (p := ⟨b, o + k * 2 + 1, none⟩) (ltOfCell ((HBX.out.cell (p := ⟨b, o + k * 2 + 1, none⟩) (ltOfCell hc2)).trans hc2))).trans ((HBX.out.cell (p := ⟨b, o + k * 2 + 1, none⟩) (ltOfCell hc2)).trans hc2)
        have m0 := (hb2.cell (p := ⟨xb, 0, none⟩) (ltOfCell m0)).trans m0
        have m1 := (hb2.cell (p := ⟨xb, 1, none⟩) (ltOfCell m1)).trans m1
        have hcell := (hb2.cell (p := ⟨gn, k, none⟩) (ltOfCell hcell)).trans hcell
        have HB2 := Lib.hid (HBX.out.trans (hb2.mono HBX.out.size))
        clear hb2
        go_wp2_with fail
        go_loopw [14] (fun j wx => ∃ jj : Nat, j = .int .i64 jj ∧ jj ≤ k ∧ ∃ nq, wx = w2.drewN nq) (fun j _ => k - (intOf j).toNat)
        case atStart => exact ⟨0, rfl, by omega, 0, rfl⟩
        case round =>
          obtain ⟨jj, rfl, hjk, nq, rfl⟩ := hrel
          by_cases hjlt : jj < k
          · obtain ⟨gn', e', _, hcj⟩ := HR.out jj (by simp; omega)
            cases e'
            obtain ⟨nj, hnj⟩ : ∃ nj : ByteArray, nj = ⟨((l.map nameOf)[jj]'(by simp; omega)).toArray⟩ := ⟨_, rfl⟩
            rw [← hnj] at hcj
            have hcj := (HB2.out.cell (p := ⟨gn, jj, none⟩) (ltOfCell hcj)).trans hcj
            have hne : (nj.toList == nm.toList) = false := by
              rw [ByteArray.toList_eq, ByteArray.toList_eq, HNM.out, hnj]
              simp only [List.getElem_map]
              exact beq_eq_false_iff_ne.2 (name_ne HM.out hlt hjlt)
            clear hnj
            go_wp2_with fail
            go_quiet (fail)
            go_wp2_with fail
            go_roundw
            case rel => exact ⟨jj + 1, by go_num, by omega, _, rfl⟩
            case measure => simp [intOf]; omega
          · go_wp2_with fail
            go_roundw
            case rel => exact ⟨k + 1, by go_num, by omega, ⟨HB2.out.os, HB2.out.tape, HB2.out.output, HB2.out.size, HB2.out.block⟩⟩
            case measure => simp [intOf]; omega
      · obtain rfl : k = l.length := by omega
        go_wp2_with fail
        go_meet
        exact HBX.out
  case rest =>
    have m0 := (hcut.cell (p := ⟨xb, 0, none⟩) (ltOfCell HC.out.1)).trans HC.out.1
    have m1 := (hcut.cell (p := ⟨xb, 1, none⟩) (ltOfCell HC.out.2.1)).trans HC.out.2.1
    have e0 := (hcut.cell (p := ⟨eb, 0, none⟩) (ltOfCell HC.out.2.2.1)).trans HC.out.2.2.1
    have e1 := (hcut.cell (p := ⟨eb, 1, none⟩) (ltOfCell HC.out.2.2.2)).trans HC.out.2.2.2
    rw [HFK.out]
    apply_assumption
    exact fd_tail w wc (HB.out.trans (hcut.mono HB.out.size)) g l a1 c1 (HS.out.pure hcut) HM.out xb eb x y q m0 m1 e0 e1
end Go.Proofs.YtljmekdilhphaaaGreatDoor
