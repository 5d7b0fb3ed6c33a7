/- The iterator of a log's payloads. -/
import Derived.RangeFuncBound
import Derived.RangeFuncCalls
import Derived.Shelf.Abstract
import Derived.Shelf.RegionOpen
import Derived.OwnWalkIn
import Derived.TacticsInMore
import Derived.LoopNIn
import Derived.LoopIn
import Derived.BigRegionIn
import Derived.Sort.CutIn
import Derived.Test.YtcdjckdbcffgdaaGreatDoorMAy
import Derived.Test.YtcdjckdbcffgdaaGreatDoorMAo
import Derived.Test.YtcdjckdbcffgdaaGreatDoorMkRgB
import Derived.Test.YtcdjckdbcffgdaaGreatDoorMkIxg
namespace Go.Proofs.YtcdjckdbcffgdaaGreatDoor
open Go.RowKit Go.Shelf
attribute [local go_sem] Oper.semAt_some

theorem IsDk.same {w W : World} {p b : Nat} {st : DkSt} (h : IsDk w p b st) (hp : W.heap[p]? = w.heap[p]?) (hb : W.heap[b]? = w.heap[b]?) : IsDk W p b st := by
  obtain ⟨es, clock, h1, h2⟩ := h.own
  exact ⟨hp.trans h.cell, ⟨es, clock, hb.trans h1, h2⟩, h.ok⟩
/-- All that a log, its disk, and the names' table lie in. -/
def LgAll (F : Nat → Prop) (p b : Nat) (k : Nat) : Prop := F k ∨ k = p ∨ k = b ∨ k = PW
theorem LgEnv.same {w W : World} {F : Nat → Prop} {g p b : Nat} {st : DkSt} {l : LgSt} (h : LgEnv w F g p b st l) (he : ∀ k, LgAll F p b k → W.heap[k]? = w.heap[k]?) : LgEnv W F g p b st l :=
  ⟨h.lg.same fun k hk => he k (.inl hk), h.dk.same (he _ (.inr (.inl rfl))) (he _ (.inr (.inr (.inl rfl)))), pow_same (he _ (.inr (.inr (.inr rfl)))) h.pow, h.ok, h.far, h.pw⟩
def PayOk (l : LgSt) (q0 : Nat) (pre : List RdX) : Prop := ∀ i (h : i < pre.length), pre[i].e = 0 ∧ pre[i].p.data.toList = l.at (q0 - l.first.toNat + i)
theorem wrap_succ {n : Nat} (h : n ≤ 1048576) : Value.int .i64 (wrap64 ((n : Int) + 1)) = .int .i64 ((n + 1 : Nat) : Int) := by congr 1; unfold wrap64; omega
theorem payOk_snoc {l : LgSt} {q0 : Nat} {pre : List RdX} {y : RdX} (h : PayOk l q0 pre) (he : y.e = 0) (hp : y.p.data.toList = l.at (q0 - l.first.toNat + pre.length)) : PayOk l q0 (pre ++ [y]) := by
  intro i hi
  by_cases hc : i < pre.length
  · rw [List.getElem_append_left hc]; exact h i hc
  · have : i = pre.length := by rw [List.length_append, List.length_singleton] at hi; omega
    subst this
    rw [List.getElem_append_right (Nat.le_refl _)]
    simpa using ⟨he, hp⟩
/-- What a round of the loop's body leaves alone. -/
def PayKeep (F : Nat → Prop) (p b lB sB : Nat) (A B : World) : Prop := A.heap.size ≤ B.heap.size ∧ ∀ k, (LgAll F p b k ∨ k = lB ∨ k = sB) → B.heap[k]? = A.heap[k]?

set_option maxRecDepth 100000 in
set_option maxHeartbeats 8000000 in
theorem pay_seq (w : World) (F : Nat → Prop) (g p b : Nat) (st : DkSt) (l : LgSt) (h : LgEnv w F g p b st l) (hon : LgOn st l) (hlit : st.dark = false) (sB lB q0 : Nat) (hq : l.first ≤ (q0 : Int)) (hs : w.heap[sB]? = some (.cells #[.int .i64 (q0 : Int)] 2 (0, 0))) (hlb : w.heap[lB]? = some (.cells #[.pointer (some ⟨g, 0, none⟩)] 30 (0, 0)))
    (nsl : sB ≠ lB) (far : ¬ LgAll F p b sB) (N : Nat) (hN : q0 + N ≤ l.next) :
    SeqOwnB Fence.wide 5 Tryz.prog 115 #[.pointer (some ⟨sB, 0, none⟩), .pointer (some ⟨lB, 0, none⟩)] rdEnc (fun k => k = sB) (PayKeep F p b lB sB) (fun _ => False) (PayOk l q0) N w := by
  intro y J Jx W hW hJ hJx hY hJN h0
  have hall : ∀ k, LgAll F p b k → k < w.heap.size := fun k hk => by
    rcases hk with hk | rfl | rfl | rfl
    · exact h.lt k hk
    · exact h.dk.lt
    · exact h.dk.own.lt
    · exact pow_lt h.pow
  have HK := Lib.hid (fun k (hk : LgAll F p b k) => hW.block k (hall k hk))
  have HLW := Lib.hid ((hW.block _ (lt_of_block hlb)).trans hlb)
  have HSW := Lib.hid ((hW.block _ (lt_of_block hs)).trans hs)
  have H0 := Lib.hid h
  have HON := Lib.hid hon
  have HJ := Lib.hid hJ
  have HJX := Lib.hid hJx
  have HY := Lib.hid hY
  have HJN := Lib.hid hJN
  have HH := Lib.hid h0
  have HFAR := Lib.hid far
  have htop := h.ok.top
  have hfew := h.ok.few
  have hlen := h.ok.len
  have hpos := h.ok.pos
  clear hall h hon hJ hJx hY hJN h0 hW hs hlb far
  refine callsIn_of_wp Tryz.func115 rfl trivial ?_ rfl
  simp only [Tryz.ntmps115, List.size_toArray, List.length_cons, List.length_nil, Nat.reduceAdd, Nat.reduceSub, Array.replicate_succ, Array.replicate_zero, List.push_toArray, List.append_toArray, List.nil_append, List.cons_append]
  gi_wp2
  gi_loopw [] (fun wr => ∃ (pre : List RdX), PayOk l q0 pre ∧ J pre wr ∧ (∀ k, LgAll F p b k ∨ k = lB → wr.heap[k]? = W.heap[k]?) ∧ wr.heap[sB]? = some (.cells #[.int .i64 ((q0 + pre.length : Nat) : Int)] 2 (0, 0))) (fun wr => l.next - (intOf ((wr.cell? ⟨sB, 0, none⟩).getD undef)).toNat)
  case atStart => exact ⟨[], fun i hi => by simp at hi, HH.out, fun _ _ => rfl, HSW.out⟩
  case round =>
    obtain ⟨pre, hok, hJp, hkeep, hsb⟩ := hrel
    have hlt := HJN.out pre _ hJp
    have henv := H0.out.same fun k hk => (hkeep k (.inl hk)).trans (HK.out k hk)
    obtain ⟨i, hi, hi', hfd, h5, h7, hal⟩ := find_seg H0.out.ok (q := q0 + pre.length) (by omega) (by omega)
    obtain ⟨B, hB⟩ : ∃ B, B = q0 + pre.length := ⟨_, rfl⟩
    rw [← hB] at hfd h5 h7 hal hsb
    have hlB := (hkeep lB (.inr rfl)).trans HLW.out
    have e1 : wr.cell? ⟨sB, 0, none⟩ = some (.int .i64 (B : Int)) := (cell_of_row _ _ _ _ _ _ hsb).trans rfl
    have e2 : wr.cell? ⟨lB, 0, none⟩ = some (.pointer (some ⟨g, 0, none⟩)) := (cell_of_row _ _ _ _ _ _ hlB).trans rfl
    obtain ⟨sv, iv, xs, S, hc, _, _, _⟩ := henv.lg
    obtain ⟨a0, c0, rfl⟩ := hc.segs.shape
    obtain ⟨g0, _, _, _, g4, g5, g6⟩ := hc.cs
    have hgl := hc.gl
    have hxl := hc.len
    have HSEG := Lib.hid hc.segs
    have HFD := Lib.hid hfd
    have HB := Lib.hid hB
    have HENV := Lib.hid henv
    have HC := Lib.hid hc
    have HOK := Lib.hid hok
    have HJP := Lib.hid hJp
    have HKE := Lib.hid hkeep
    have HSB := Lib.hid hsb
    have HAL := Lib.hid hal
    have hll := ltOfCell e2
    have hsl := ltOfCell e1
    have HGX := Lib.hid (And.intro g0 g6)
    have h7' := h7
    clear hok hJp hkeep hsb henv hc hfd hB hal hlB h7
    have HFI := Lib.hid (fun W9 (hb : Below wr.heap.size wr W9) => find_any W9 l.gen (.slice a0 l.segs.length c0) l.segs (HSEG.out.pure hb) (by omega) (B : Int))
    gi_wp2_with fail
    refine wpIn_wide.2 ?_
    go_region_held3 (fun w' => w'.cell? ⟨sB, 0, none⟩ = some (.int .i64 (B : Int)) ∧ w'.cell? ⟨lB, 0, none⟩ = some (.pointer (some ⟨g, 0, none⟩)) ∧ w'.cell? ⟨g, 4, none⟩ = some (.int .i64 l.gen) ∧ w'.cell? ⟨g, 5, none⟩ = some (.slice a0 l.segs.length c0)) (first | exact ⟨e1, e2, g4, g5⟩ | exact ⟨x1, x2, x4, x5⟩ | go_keep) (first
      | (go_at_call 116; refine (HFI.out _ (by first | exact Below.refl _ _ | exact (Below.refl _ _).drew)).mono ?_; rintro e w1 ⟨rfl, hb1⟩; rw [HFD.out]; have HB1 := Lib.hid ((show Below wr.heap.size wr _ by first | exact Below.refl _ _ | exact (Below.refl _ _).drew).trans hb1); have x1 := (HB1.out.cell (p := ⟨sB, 0, none⟩) hsl).trans e1; have x2 := (HB1.out.cell (p := ⟨lB, 0, none⟩) hll).trans e2; have x4 := (HB1.out.cell (p := ⟨g, 4, none⟩) hgl).trans g4; have x5 := (HB1.out.cell (p := ⟨g, 5, none⟩) hgl).trans g5; clear hb1))
    have hz1 := HB1.out.size
    obtain ⟨sb, so, hso, k1, k2, hsbl⟩ := (HSEG.out.pure HB1.out).at i hi
    cases hso
    gi_wp2_with fail
    obtain ⟨w2, hw2⟩ : ∃ w2, w2 = w1.alloc (.cells #[.int .i64 l.segs[i].1, .int .i64 l.segs[i].2] 76) := ⟨_, rfl⟩
    have hb2 : Below w1.heap.size w1 w2 := by rw [hw2]; exact (Below.refl _ _).alloc (Nat.le_refl _) _
    have hB2 := HB1.out.trans (hb2.mono hz1)
    have hx2 : w2.heap[w1.heap.size]? = some (.cells #[.int .i64 l.segs[i].1, .int .i64 l.segs[i].2] 76 (0, 0)) := by rw [hw2]; exact alloc_at_top _ _ rfl
    have b0 : w2.cell? ⟨w1.heap.size, 0, none⟩ = some (.int .i64 l.segs[i].1) := (cell_of_row _ _ _ _ _ _ hx2).trans rfl
    have b1 : w2.cell? ⟨w1.heap.size, 1, none⟩ = some (.int .i64 l.segs[i].2) := (cell_of_row _ _ _ _ _ _ hx2).trans rfl
    have y2 := (hB2.cell (p := ⟨lB, 0, none⟩) hll).trans e2
    have y0 := (hB2.cell (p := ⟨g, 0, none⟩) hgl).trans HGX.out.1
    have henv2 := HENV.out.pure hB2
    have hbl2 := ltOfCell b0
    have hll2 := ltOfCell y2
    have hgl2 := ltOfCell y0
    obtain ⟨G, FF, hGF, hG1, hG2⟩ := may_nat H0.out.ok.may i hi
    have HNM := Lib.hid (show (nameOf l.segs[i]).length = 20 from by rw [hGF]; exact segName_len G FF hG1 hG2)
    have HNA := Lib.hid (fun W9 (hb : Below w2.heap.size w2 W9) => name_any W9 (below_pow hb henv2.pow) l.segs[i].1 l.segs[i].2)
    obtain ⟨fl, hfl, hbytes, _, _⟩ := HON.out.seg i hi hi'
    have HRD := Lib.hid (show dkRead st (nameOf l.segs[i]) = (segBytes l.ix[i].1 l.ix[i].2, 0) from by unfold dkRead; rw [hlit, hfl]; simp [hbytes])
    have HB2 := Lib.hid hB2
    have HENV2 := Lib.hid henv2
    rw [← hw2]
    clear hw2 hb2 hB2 hx2 henv2 hGF hfl hbytes k1 k2 x1 x2 x4 x5
    refine wpIn_wide.2 ?_
    go_region_held3 (fun w' => w'.cell? ⟨lB, 0, none⟩ = some (.pointer (some ⟨g, 0, none⟩)) ∧ w'.cell? ⟨g, 0, none⟩ = some (.pointer (some ⟨p, 0, none⟩)) ∧ w'.cell? ⟨w1.heap.size, 0, none⟩ = some (.int .i64 l.segs[i].1) ∧ w'.cell? ⟨w1.heap.size, 1, none⟩ = some (.int .i64 l.segs[i].2)) (first | exact ⟨y2, y0, b0, b1⟩ | exact ⟨x1, x2, x4, x5⟩ | exact ⟨z1, z2, z4, z5⟩ | go_keep) (first
      | (go_at_call 42; refine (HNA.out _ (by first | exact Below.refl _ _ | exact (Below.refl _ _).drew)).mono ?_; rintro e w3 ⟨⟨r, hr, rfl⟩, hb3⟩; have HR := Lib.hid hr; have HB3 := Lib.hid ((show Below w2.heap.size w2 _ by first | exact Below.refl _ _ | exact (Below.refl _ _).drew).trans hb3); have HRL := Lib.hid (show r.size ≤ maxLen by have h1 := size_of_list hr; have h2 := HNM.out; unfold nameOf at h2; unfold maxLen; omega); have x1 := (HB3.out.cell (p := ⟨lB, 0, none⟩) hll2).trans y2; have x2 := (HB3.out.cell (p := ⟨g, 0, none⟩) hgl2).trans y0; have x4 := (HB3.out.cell (p := ⟨w1.heap.size, 0, none⟩) hbl2).trans b0; have x5 := (HB3.out.cell (p := ⟨w1.heap.size, 1, none⟩) hbl2).trans b1; clear hr hb3)
      | (go_at_call 117; refine (dk_read _ p b st (HENV2.out.dk.pure HB3.out) r HRL.out).mono ?_; rw [HR.out, show segName l.segs[i].1 l.segs[i].2 = nameOf l.segs[i] from rfl, HRD.out]; rintro e w4 ⟨⟨s, hs, rfl⟩, hb4⟩; have HS := Lib.hid hs; have HB4 := Lib.hid (HB3.out.trans (hb4.mono HB3.out.size)); have z1 := (HB4.out.cell (p := ⟨lB, 0, none⟩) hll2).trans y2; have z2 := (HB4.out.cell (p := ⟨g, 0, none⟩) hgl2).trans y0; have z4 := (HB4.out.cell (p := ⟨w1.heap.size, 0, none⟩) hbl2).trans b0; have z5 := (HB4.out.cell (p := ⟨w1.heap.size, 1, none⟩) hbl2).trans b1; clear hs hb4))
    have hB4 := HB2.out.trans (HB4.out.mono (HB2.out.size))
    have HB5 := Lib.hid hB4
    obtain ⟨rb, cI, hiv, hcell⟩ := HC.out.ptr i (by omega)
    have m1 := (hB4.cell (p := ⟨sB, 0, none⟩) hsl).trans e1
    have m2 := (hB4.cell (p := ⟨lB, 0, none⟩) hll).trans e2
    have m6 := (hB4.cell (p := ⟨g, 6, none⟩) hgl).trans HGX.out.2
    subst hiv
    have mr := (hB4.cell (p := ⟨rb, i, none⟩) (ltOfCell hcell)).trans hcell
    have hix := HC.out.ixs i (by omega) hi'
    have heach := H0.out.ok.each i hi hi'
    have hgd := heach.2.2
    have hnxl : SgIx.next l.ix[i] = l.ix[i].1 + l.ix[i].2.length := rfl
    have hfo := frOk_le heach.2.1
    have hev := ev_nat H0.out.ok.cfg
    obtain ⟨k, hk⟩ : ∃ k, k = B - l.ix[i].1 := ⟨_, rfl⟩
    have hBk : l.ix[i].1 + k = B := by omega
    have hkl : k < l.ix[i].2.length := by omega
    have hss : s.size ≤ 1048576 := by have h1 := size_of_list HS.out; have h2 : (segBytes l.ix[i].1 l.ix[i].2).length ≤ 1048576 := hgd; omega
    obtain ⟨PK, hPK⟩ : ∃ PK, PK = (l.ix[i].2)[k]'hkl := ⟨_, rfl⟩
    have hxi : i < xs.length := by omega
    have hge : ∀ W9 : World, Below w4.heap.size w4 W9 → Calls Tryz.prog 118 #[.pointer (some ⟨(xs[i]'hxi).1, 0, none⟩), .string s, .int .i64 (B : Int)] W9 fun e w' => (∃ pp : ByteArray, pp.data.toList = PK ∧ e = .returned (.tuple #[.string pp, .int .i64 0])) ∧ Below W9.heap.size W9 w' := fun W9 hb => by
      have h9 := ix_get W9 (xs[i]'hxi).1 l.ev l.ix[i].1 (SgIx.next l.ix[i]) (SgIx.good l.ix[i]) (xs[i]'hxi).2 l.ix[i].2 ((hix.pure hB4).pure hb) (by obtain ⟨ev, _, h1, _, h2⟩ := hev; unfold LgSt.ev; omega) hnxl (by rcases hfo with h3 | h3; (rw [h3] at hkl; simp at hkl); omega) k hkl s [] (by rw [HS.out, List.append_nil]) hss heach.2.1
      rw [hBk, ← hPK] at h9
      exact h9
    have HGE := Lib.hid hge
    have HPAY := Lib.hid (show l.at (q0 - l.first.toNat + pre.length) = PK from by
      have h1 := HAL.out
      rw [← hk] at h1
      unfold LgSt.at
      rw [show q0 - l.first.toNat + pre.length = B - l.first.toNat from by have := HB.out; omega, h1, List.getElem?_eq_getElem hkl, hPK]; rfl)
    unfold ixPtr at mr
    have hsl4 := ltOfCell m1
    have hll4 := ltOfCell m2
    have hgl4 := ltOfCell m6
    have hrl4 := ltOfCell mr
    clear hB4 hcell hix heach hgd hfo hev hge hnxl x1 x2 x4 x5 z1 z2 z4 z5 y2 y0 b0 b1 hk hBk hPK hkl
    gi_wp2_with fail
    refine wpIn_wide.2 ?_
    go_region_held3 (fun w' => w'.cell? ⟨sB, 0, none⟩ = some (.int .i64 (B : Int)) ∧ w'.cell? ⟨lB, 0, none⟩ = some (.pointer (some ⟨g, 0, none⟩)) ∧ w'.cell? ⟨g, 6, none⟩ = some (.slice (some ⟨rb, 0, none⟩) xs.length cI) ∧ w'.cell? ⟨rb, i, none⟩ = some (.pointer (some ⟨xs[i].1, 0, none⟩))) (first | exact ⟨m1, m2, m6, mr⟩ | exact ⟨x1, x2, x4, x5⟩ | go_keep) (first
      | (go_at_call 118; refine (HGE.out _ (by first | exact Below.refl _ _ | exact (Below.refl _ _).drew)).mono ?_; rintro e w5 ⟨⟨pp, hpp, rfl⟩, hb5⟩; have HPP := Lib.hid hpp; have HB6 := Lib.hid ((show Below w4.heap.size w4 _ by first | exact Below.refl _ _ | exact (Below.refl _ _).drew).trans hb5); have x1 := (HB6.out.cell (p := ⟨sB, 0, none⟩) hsl4).trans m1; have x2 := (HB6.out.cell (p := ⟨lB, 0, none⟩) hll4).trans m2; have x4 := (HB6.out.cell (p := ⟨g, 6, none⟩) hgl4).trans m6; have x5 := (HB6.out.cell (p := ⟨rb, i, none⟩) hrl4).trans mr; clear hpp hb5))
    gi_wp2_with fail
    have hb5 := HB5.out.trans (HB6.out.mono HB5.out.size)
    have hf5 : Fr (fun k => k = sB) wr w5 := Fr.pure hb5
    have HOX := Lib.hid (payOk_snoc (y := ⟨pp, 0⟩) HOK.out rfl (HPP.out.trans HPAY.out.symm))
    have HKE5 := Lib.hid (fun k (hk : LgAll F p b k ∨ k = lB) => (hb5.block k (by
      rcases hk with hk | rfl
      · rcases hk with hk | rfl | rfl | rfl
        · exact HENV.out.lt k hk
        · exact HENV.out.dk.lt
        · exact HENV.out.dk.own.lt
        · exact pow_lt HENV.out.pow
      · exact hll)).trans (HKE.out k hk))
    have HSB5 := Lib.hid ((hb5.block sB hsl).trans HSB.out)
    obtain ⟨fn, tmps, assign, body, hy, hR⟩ := HY.out pre ⟨pp, 0⟩ _ (HJ.out _ _ _ HJP.out hf5) hlt
    unfold rdEnc at hy
    dsimp only at hy
    clear hf5 hb5 x1 x2 x4 x5
    rw [hy]
    refine ⟨by simp, ?_⟩
    refine hR.mono ?_
    rintro e W4 (⟨rfl, hJ4, hk4⟩ | ⟨rfl, hJx4⟩)
    · have hs4 := (hk4.2 sB (.inr (.inr rfl))).trans HSB5.out
      have c4 : W4.cell? ⟨sB, 0, none⟩ = some (.int .i64 (B : Int)) := (cell_of_row _ _ _ _ _ _ hs4).trans rfl
      have z4 : W4.frozen? ⟨sB, 0, none⟩ = false := frozen_of_row _ _ 0 _ _ hs4
      have HK4 := Lib.hid (fun k (hk : LgAll F p b k ∨ k = lB) => (hk4.2 k (hk.imp id .inl)).trans (HKE5.out k hk))
      have HS4 := Lib.hid hs4
      have HJ4 := Lib.hid hJ4
      clear hk4 hs4 hJ4 hy hR
      gi_wp2
      have hwr : Value.int .i64 (wrap64 ((B : Int) + 1)) = .int .i64 ((B + 1 : Nat) : Int) := by
        have hB9 : B ≤ 1048576 := by have := HB.out; omega
        exact wrap_succ hB9
      rw [hwr]
      have hx := one_setCell HS4.out (u := .int .i64 ((B + 1 : Nat) : Int))
      refine ⟨⟨pre ++ [⟨pp, 0⟩], HOX.out, HJ.out _ _ _ HJ4.out (setCell_fr (w := W4) ⟨sB, 0, none⟩ _), fun k hk => ?_, ?_⟩, ?_⟩
      · refine (Below.heap_setCell _ _ _ _ ?_).trans (HK4.out k hk)
        show k ≠ sB
        rintro rfl
        rcases hk with hk | hk
        · exact HFAR.out hk
        · exact nsl hk
      · rw [hx, List.length_append, List.length_singleton, show q0 + (pre.length + 1) = B + 1 from by have := HB.out; omega]
      · have e9 : (W4.setCell ⟨sB, 0, none⟩ (.int .i64 ((B + 1 : Nat) : Int))).cell? ⟨sB, 0, none⟩ = some (.int .i64 ((B + 1 : Nat) : Int)) := (cell_of_row _ _ _ _ _ _ hx).trans rfl
        rw [e9, e1]
        simp [intOf]
        have := HB.out
        omega
    · gi_wp2
      refine bodyPost_ret (results_none rfl _ _ _) rfl ?_
      exact ⟨⟨_, rfl⟩, .inr ⟨_, HOX.out, hJx4⟩⟩
end Go.Proofs.YtcdjckdbcffgdaaGreatDoor
