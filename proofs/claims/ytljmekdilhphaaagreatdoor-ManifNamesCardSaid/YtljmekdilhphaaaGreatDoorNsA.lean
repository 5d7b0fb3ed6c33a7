/- ManifNames' middle: the manifest with one segment too many, With, and Make of the full one. -/
import Derived.Test.YtljmekdilhphaaaGreatDoorNsC
import Derived.Test.YtljmekdilhphaaaGreatDoorWi
namespace Go.Proofs.YtljmekdilhphaaaGreatDoor
open Go.RowKit Go.Sort

def fullL (k : Nat) : Segs := (List.range k).map fun i : Nat => ((0 : Int), (i : Int))
theorem fullL_length (k : Nat) : (fullL k).length = k := by simp [fullL]
theorem fullL_succ (k : Nat) : fullL (k + 1) = fullL k ++ [(0, (k : Int))] := by simp [fullL, List.range_succ]
theorem more_eq : fullL 64 ++ [(0, 99)] = moreL := rfl
theorem full_may : mayB 0 (fullL 64) = true := by decide +kernel
theorem full_bytes : (manBytes 0 (fullL 64)).length = 1038 := by decide +kernel

set_option maxRecDepth 100000 in
theorem full_one : ∀ u ∈ segCells (fullL 64), u.oneCell' = true := by decide +kernel
theorem own_top2 {w : World} {b e s g n c m : Nat} {xs : List Value} (h : w.ownsRow b e s (.slice (some ⟨g, 0, none⟩) n c) m xs) : g < w.heap.size := by
  rcases h.2 with ⟨hv, _⟩ | ⟨g', cap, cur, hv, _, hh, _⟩
  · cases hv
  · cases hv; exact lt_of_block hh
/-- An append to a row of entries of one's own, at a plain region. -/
theorem ap_ent {ops : Array Oper} {rest : List Oper} {o : Oper} {a : Act} {w : World} {Q : Exit → Act → World → Prop} (hgd : o.guard = none) (s x : Operand)
    (ho : o.op = .call { callee := .builtin .append, args := #[s, x], argTypes := #[30, 30] })
    (base : Nat) (v : Value) (n : Nat) (xs : List Value) (hs : a.eval s = v) (hown : w.ownsRow base 72 2 v n xs)
    (ad : Addr) (m c : Nat) (news : List Value) (hx : a.eval x = .slice (some ad) m c) (hl : news.length = m * 2) (hnews : ∀ j u, news[j]? = some u → w.cell? (ad.add j) = some u) (h1 : ∀ u ∈ news, u.oneCell' = true)
    (hm : 0 < m) (h63 : n + m ≤ 1000) (hbase : base ≤ w.heap.size) (H : Nat) (hH : w.heap.size = H)
    (h : ∀ g cap w', w'.ownsRow base 72 2 (.slice (some ⟨g, 0, none⟩) (n + m) cap) (n + m) (xs ++ news) → w.grownBy w' v.ownBlock → (v.ownBlock = some g ∨ g = H) → g < w'.heap.size → wpList Tryz.prog ops Q rest (a.put o.dst (.slice (some ⟨g, 0, none⟩) (n + m) cap)) w') :
    wpList Tryz.prog ops Q (o :: rest) a w := by
  obtain ⟨i0, hi, hz0, hz1, hz2⟩ := info_parts Tryz.infoEntry
  exact wpList_append_lies _ hgd s x _ ho base 72 i0 _ 2 16 Tryz.underlying30 hi hz0 hz1 hz2 rfl (by omega) v n xs hs hown ad m c news hx hl hnews h1 hm (by unfold maxLen; omega) (by omega) hbase H hH h

theorem with_full (w : World) (g c : Nat) (h : SegsAt w (.slice (some ⟨g, 0, none⟩) (fullL 64).length c) (fullL 64)) :
    Calls Tryz.prog 34 #[.agg #[.int .i64 0, .slice (some ⟨g, 0, none⟩) 64 c], .agg #[.int .i64 0, .int .i64 99]] w fun e w' => e = .returned (.tuple #[noMan, .int .i64 4]) ∧ Below w.heap.size w w' :=
  (with_ok w 0 (.slice (some ⟨g, 0, none⟩) 64 c) (fullL 64) h full_may 0 99).mono fun e w' ⟨hb, hp⟩ => by
    rw [more_eq, more_bad] at hp
    exact ⟨hp, hb⟩
theorem make_full (w : World) (g c : Nat) (h : SegsAt w (.slice (some ⟨g, 0, none⟩) (fullL 64).length c) (fullL 64)) :
    Calls Tryz.prog 11 #[.agg #[.int .i64 0, .slice (some ⟨g, 0, none⟩) 64 c]] w fun e w' => (∃ s : ByteArray, s.size = 1042 ∧ e = .returned (.tuple #[.string s, .int .i64 0])) ∧ Below w.heap.size w w' :=
  (make_ok w 0 (.slice (some ⟨g, 0, none⟩) 64 c) (fullL 64) h full_may).mono fun e w' ⟨r, hr, he, hb⟩ => ⟨⟨r, by rw [size_of_list hr, Crc.seal_length, full_bytes], he⟩, hb⟩

set_option maxRecDepth 100000 in
set_option maxHeartbeats 8000000 in
theorem ns_mid (w wr : World) (qb : Below w.heap.size w wr) (fb g : Nat) (c : Nat) (qf : wr.heap[fb]? = some (.cells #[.int .i64 0, .slice (some ⟨g, 0, none⟩) 64 c] 32 (0, 0))) (qs : wr.ownsRow 0 72 2 (.slice (some ⟨g, 0, none⟩) 64 c) 64 (segCells (fullL 64))) {u0 u2 u3 u4 u5 u6 u7 u8 u9 u10 u11 u12 u13 u14 u15 u16 u17 u18 u19 u20 u21 u22 u23 u24 u25 u26 u27 u28 u29 u30 u31 u32 u33 u34 u35 u36 u37 u38 u39 u40 u41 u42 u43 u44 u45 u46 u47 u48 u49 u50 u51 u52 u53 u54 u55 u56 u57 u58 u59 u60 u61 u62 u63 u64 u65 u66 u67 u68 u69 u70 u71 u72 u73 u74 u75 u76 u77 u78 u79 u80 u81 u82 u83 u84 u85 u86 u87 u88 u89 u90 u91 u92 u93 u94 u95 u96 u97 u98 u99 u100 u101 u102 u103 u104 u105 u106 u107 u108 u109 u110 u111 u112 u113 u114 u115 u116 u117 u118 u119 u120 u121 u122 u123 u124 u125 u126 u127 u128 u129 u130 u131 u132 u133 u134 u135 u136 u137 u138 u139 u140 u141 u142 u143 u144 u145 u146 u147 u148 u149 u150 u151 u152 u153 u154 u155 u156 u157 u158 u159 u160 u161 u162 u163 u164 u165 u166 u167 u168 u169 u170 u171 u172 u173 u174 u175 u176 u177 u178 u179 u180 u181 u182 u183 u184 u185 u186 u187 u188 u189 u190 u191 u192 u193 u194 u195 u196 u197 u198 : Value} :
    Code.wp Tryz.prog (dropS 4 (Tryz.f7.body.getD .skip)) (bodyPost Tryz.prog Tryz.f7 fun e w' => e = .returned (.bool true) ∧ Below w.heap.size w w') { tmps := (List.toArray (u0 :: .pointer (some ⟨fb, 0, none⟩) :: u2 :: u3 :: u4 :: u5 :: u6 :: u7 :: u8 :: u9 :: u10 :: u11 :: u12 :: u13 :: u14 :: u15 :: u16 :: u17 :: u18 :: u19 :: u20 :: u21 :: u22 :: u23 :: u24 :: u25 :: u26 :: u27 :: u28 :: u29 :: u30 :: u31 :: u32 :: u33 :: u34 :: u35 :: u36 :: u37 :: u38 :: u39 :: u40 :: u41 :: u42 :: u43 :: u44 :: u45 :: u46 :: u47 :: u48 :: u49 :: u50 :: u51 :: u52 :: u53 :: u54 :: u55 :: u56 :: u57 :: u58 :: u59 :: u60 :: u61 :: u62 :: u63 :: u64 :: u65 :: u66 :: u67 :: u68 :: u69 :: u70 :: u71 :: u72 :: u73 :: u74 :: u75 :: u76 :: u77 :: u78 :: u79 :: u80 :: u81 :: u82 :: u83 :: u84 :: u85 :: u86 :: u87 :: u88 :: u89 :: u90 :: u91 :: u92 :: u93 :: u94 :: u95 :: u96 :: u97 :: u98 :: u99 :: u100 :: u101 :: u102 :: u103 :: u104 :: u105 :: u106 :: u107 :: u108 :: u109 :: u110 :: u111 :: u112 :: u113 :: u114 :: u115 :: u116 :: u117 :: u118 :: u119 :: u120 :: u121 :: u122 :: u123 :: u124 :: u125 :: u126 :: u127 :: u128 :: u129 :: u130 :: u131 :: u132 :: u133 :: u134 :: u135 :: u136 :: u137 :: u138 :: u139 :: u140 :: u141 :: u142 :: u143 :: u144 :: u145 :: u146 :: u147 :: u148 :: u149 :: u150 :: u151 :: u152 :: u153 :: u154 :: u155 :: u156 :: u157 :: u158 :: u159 :: u160 :: u161 :: u162 :: u163 :: u164 :: u165 :: u166 :: u167 :: u168 :: u169 :: u170 :: u171 :: u172 :: u173 :: u174 :: u175 :: u176 :: u177 :: u178 :: u179 :: u180 :: u181 :: u182 :: u183 :: u184 :: u185 :: u186 :: u187 :: u188 :: u189 :: u190 :: u191 :: u192 :: u193 :: u194 :: u195 :: u196 :: u197 :: u198 :: [])), defers := [] } wr := by
  have HB := Lib.hid qb
  have HS := Lib.hid qs
  have HF := Lib.hid qf
  have qf0 : wr.cell? ⟨fb, 0, none⟩ = some (.int .i64 0) := by rw [cell_of_row _ _ _ _ _ _ qf]; rfl
  have qf1 : wr.cell? ⟨fb, 1, none⟩ = some (.slice (some ⟨g, 0, none⟩) 64 c) := by rw [cell_of_row _ _ _ _ _ _ qf]; rfl
  clear qb qs qf
  conv => arg 2; whnf
  have hfl := ltOfCell qf0
  have hgl := own_top2 HS.out
  have tok1 : True := trivial
  have tok2 : True := trivial
  have hne : wr.heap.size ≠ fb := by omega
  go_upto_region 9 with (first
    | (at_builtin; have _t := tok1; refine ap_ent rfl _ _ rfl 0 (.slice (some ⟨wr.heap.size, 0, none⟩) 0 0) 0 [] rfl (World.ownsRow_made wr #[] 0 (by omega) (by unfold maxLen; omega) rfl) ⟨g, 0, none⟩ 64 c (segCells (fullL 64)) rfl (by rw [segCells_length, fullL_length]) (fun j u hj => (HS.out.alloc _).cells rfl j u hj) full_one (by omega) (by omega) (by omega) (wr.heap.size + 1) (by simp) ?_; intro g1 cap1 w1 hown1 hgrow1 hat1 hlt1; clear tok1; have HF1 := Lib.hid ((hgrow1.block fb (by simp; omega) (by simp [Value.ownBlock]; omega)).trans ((Below.heap_alloc _ _ _ hfl).trans HF.out)); have hfl1 := lt_of_block HF1.out; have HO1 := Lib.hid hown1; have HG1 := Lib.hid hgrow1; clear hown1 hgrow1)
    | (at_builtin; have _t := tok2; refine ap_ent rfl _ _ rfl 0 (.slice (some ⟨g1, 0, none⟩) 64 cap1) 64 (segCells (fullL 64)) rfl (HO1.out.alloc _) ⟨w1.heap.size, 0, none⟩ 1 1 [.int .i64 0, .int .i64 99] rfl rfl (cells_new rfl rfl) (by simp [Value.oneCell']) (by omega) (by omega) (by omega) (w1.heap.size + 1) (by simp) ?_; intro g2 cap2 w2 hown2 hgrow2 hat2 hlt2; clear tok2; have HO2 := Lib.hid hown2; have HG2 := Lib.hid hgrow2; clear hown2 hgrow2))
  have hg1 : g1 = wr.heap.size ∨ g1 = wr.heap.size + 1 := hat1.imp (fun e => (Option.some.inj e).symm) id
  have hsz1 : wr.heap.size + 1 ≤ w1.heap.size := by have := HG1.out.size; simpa using this
  have hfb1 : fb ≠ g1 := by omega
  have hgg1 : g ≠ g1 := by omega
  have HF2 := Lib.hid ((HG2.out.block fb (by simp; omega) (by simp [Value.ownBlock]; omega)).trans ((Below.heap_alloc _ _ _ hfl1).trans HF1.out))
  have hSF1 := (HS.out.alloc (.cells #[] 72)).kept HG1.out (.inr (by show some g ≠ some wr.heap.size; intro e; cases e; omega))
  have hSF2 := (hSF1.alloc (.cells #[.int .i64 0, .int .i64 99] 72)).kept HG2.out (.inr (by show some g ≠ some g1; intro e; cases e; omega))
  have hSG : SegsAt w2 (.slice (some ⟨g, 0, none⟩) (fullL 64).length c) (fullL 64) := OwnSegs.at (by unfold OwnSegs; rw [fullL_length]; exact hSF2)
  have hSM : SegsAt w2 (.slice (some ⟨g2, 0, none⟩) 65 cap2) moreL := OwnSegs.at (own_snoc (l := fullL 64) (x := 0) (y := 99) (by rw [fullL_length]; exact HO2.out))
  have hB2 : Below w.heap.size w w2 := ((HB.out.alloc HB.out.size _).grown HG1.out (by simp; have := HB.out.size; omega) (fun k e => by have e2 : wr.heap.size = k := Option.some.inj e; have := HB.out.size; omega)).alloc (by have := HB.out.size; omega) _ |>.grown HG2.out (by simp; have := HB.out.size; omega) (fun k e => by have e2 : g1 = k := Option.some.inj e; have := HB.out.size; omega)
  have hfl2 := lt_of_block HF2.out
  have hbz := box_bz w2 (.cells #[.int .i64 0, .slice (some ⟨g2, 0, none⟩) 65 cap2] 32)
  have B3 := Lib.hid (hB2.trans (hbz.mono hB2.size))
  have SG3 := Lib.hid (hSG.pure hbz)
  have SM3 := Lib.hid (hSM.pure hbz)
  have f0 : (w2.alloc (.cells #[.int .i64 0, .slice (some ⟨g2, 0, none⟩) 65 cap2] 32)).cell? ⟨fb, 0, none⟩ = some (.int .i64 0) := by rw [hbz.cell (p := ⟨fb, 0, none⟩) hfl2, cell_of_row _ _ _ _ _ _ HF2.out]; rfl
  have f1 : (w2.alloc (.cells #[.int .i64 0, .slice (some ⟨g2, 0, none⟩) 65 cap2] 32)).cell? ⟨fb, 1, none⟩ = some (.slice (some ⟨g, 0, none⟩) 64 c) := by rw [hbz.cell (p := ⟨fb, 1, none⟩) hfl2, cell_of_row _ _ _ _ _ _ HF2.out]; rfl
  have m0 : (w2.alloc (.cells #[.int .i64 0, .slice (some ⟨g2, 0, none⟩) 65 cap2] 32)).cell? ⟨w2.heap.size, 0, none⟩ = some (.int .i64 0) := by rw [World.cell?_alloc_at _ _ _ _ rfl]; rfl
  have m1 : (w2.alloc (.cells #[.int .i64 0, .slice (some ⟨g2, 0, none⟩) 65 cap2] 32)).cell? ⟨w2.heap.size, 1, none⟩ = some (.slice (some ⟨g2, 0, none⟩) 65 cap2) := by rw [World.cell?_alloc_at _ _ _ _ rfl]; rfl
  clear hg1 hsz1 hfb1 hgg1 hSF1 hSF2 hSG hSM hB2 hbz hfl2 qf0 qf1 hfl hgl hne hfl1 hat1 hlt1 hat2 hlt2 HO1 HO2 HF1 HF2 HG1 HG2
  generalize (w2.alloc (.cells #[.int .i64 0, .slice (some ⟨g2, 0, none⟩) 65 cap2] 32)) = w3 at *
  generalize w2.heap.size = mb at *
  go_upto_region 10 with (go_at_call 34; refine (with_full w3 g c SG3.out).mono ?_; rintro e w4 ⟨rfl, hb4⟩; unfold noMan; have HB4 := Lib.hid hb4; clear hb4)
  have hbz := box_bz w4 (.cells #[.int .i64 0, .slice none 0 0] 32)
  have hb4 := HB4.out.trans (hbz.mono HB4.out.size)
  clear hbz
  have f2 := (hb4.cell (p := ⟨fb, 0, none⟩) (ltOfCell f0)).trans f0
  have f3 := (hb4.cell (p := ⟨fb, 1, none⟩) (ltOfCell f1)).trans f1
  have m2 := (hb4.cell (p := ⟨mb, 0, none⟩) (ltOfCell m0)).trans m0
  have m3 := (hb4.cell (p := ⟨mb, 1, none⟩) (ltOfCell m1)).trans m1
  have B4 := Lib.hid (B3.out.trans (hb4.mono B3.out.size))
  have SG4 := Lib.hid (SG3.out.pure hb4)
  have SM4 := Lib.hid (SM3.out.pure hb4)
  clear hb4 f0 f1 m0 m1 HB4
  generalize (w4.alloc (.cells #[.int .i64 0, .slice none 0 0] 32)) = w5 at *
  go_cut [6, 7] (fun s e wx => (∃ q : ByteArray, s = .string q ∧ q.size = 1042) ∧ e = .int .i64 0 ∧ Below w5.heap.size w5 wx)
  case first =>
    go_wp2_with fail
    refine (make_full w5 g c SG4.out).mono ?_
    rintro e w6 ⟨⟨s, hs, rfl⟩, hb6⟩
    have HSS := Lib.hid hs
    have HB6 := Lib.hid hb6
    clear hs hb6
    go_wp2_with fail
    go_meet
    exact ⟨⟨s, rfl, HSS.out⟩, rfl, HB6.out⟩
  case rest =>
    obtain ⟨⟨q, rfl, hq⟩, rfl, hbx⟩ := hcut
    have m4 := (hbx.cell (p := ⟨mb, 0, none⟩) (ltOfCell m2)).trans m2
    have m5 := (hbx.cell (p := ⟨mb, 1, none⟩) (ltOfCell m3)).trans m3
    apply_assumption
    exact ns_box w _ (B4.out.trans (hbx.mono B4.out.size)) q hq mb (some ⟨g2, 0, none⟩) cap2 m4 m5 (SM4.out.pure hbx)
end Go.Proofs.YtljmekdilhphaaaGreatDoor
