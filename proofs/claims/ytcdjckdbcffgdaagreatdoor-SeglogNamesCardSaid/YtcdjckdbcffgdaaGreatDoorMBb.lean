/- The walk of seglog.rotate. -/
import Derived.Test.YtcdjckdbcffgdaaGreatDoorMkRotM
namespace Go.Proofs.YtcdjckdbcffgdaaGreatDoor
open Go.RowKit

set_option maxRecDepth 100000 in
set_option maxHeartbeats 4000000 in
theorem rotate_any (w : World) (F : Nat → Prop) (g p b : Nat) (st : DkSt) (l : LgSt) (h0 : LgEnv w F g p b st l) :
    Calls Tryz.prog 56 #[.pointer (some ⟨g, 0, none⟩)] w fun e w' => e = .returned (.int .i64 (lgRotate st l).2) ∧ LgLeft w F g p b (lgRotate st l).1 w' := by
  have hba := (Below.refl w.heap.size w).alloc (Nat.le_refl _) (.cells #[.pointer (some ⟨g, 0, none⟩)] 30)
  have HE1 := Lib.hid (h0.pure hba)
  have HBA := Lib.hid hba
  have H0 := Lib.hid h0
  have hfew := h0.ok.few
  have hpos := h0.ok.pos
  have hlen := h0.ok.len
  have htop := h0.ok.top
  have hgw : g < w.heap.size := by obtain ⟨_, _, _, _, h9, _⟩ := h0.lg; exact h9.gl
  clear hba h0
  go_enter Tryz.func56, Tryz.ntmps56
  go_wp2_with fail
  refine (lg_next _ F g p l HE1.out.lg (by omega) (by omega)).mono ?_
  rintro e w1 ⟨rfl, hb1⟩
  have HB1 := Lib.hid (HBA.out.trans (hb1.mono HBA.out.size))
  have k0 := (hb1.cell (p := ⟨w.heap.size, 0, none⟩) (by simp)).trans (show (w.alloc (.cells #[.pointer (some ⟨g, 0, none⟩)] 30)).cell? ⟨w.heap.size, 0, none⟩ = some (.pointer (some ⟨g, 0, none⟩)) from by rw [World.cell?_alloc_at _ _ _ _ rfl]; rfl)
  clear hb1
  go_wp2_with fail
  refine (Header_any (l.next : Int) _).mono ?_
  rintro e w2 ⟨⟨r, hr, rfl⟩, hb2⟩
  rw [hdF_ok htop] at hr ⊢
  have HR := Lib.hid hr
  have hbw := HB1.out.trans (hb2.mono HB1.out.size)
  have q0 := (hb2.cell (p := ⟨w.heap.size, 0, none⟩) (ltOfCell k0)).trans k0
  have henv := H0.out.pure hbw
  obtain ⟨sv, _, _, _, hc, _⟩ := henv.lg
  obtain ⟨a0, c0, rfl⟩ := hc.segs.shape
  obtain ⟨_, _, _, _, g4, g5, _⟩ := hc.cs
  have hgl := hc.gl
  have HCON := Lib.hid (fun W (hb : Below w2.heap.size w2 W) => with_ok W l.gen _ l.segs (hc.segs.pure hb) henv.ok.may l.gen (l.next : Int))
  have HBW := Lib.hid hbw
  have hws := hbw.size
  have hlq := ltOfCell q0
  have hll : (l.segs ++ [(l.gen, (l.next : Int))]).length = l.segs.length + 1 := by simp
  have HLL := Lib.hid hll
  clear hr hb2 k0 henv hc hbw hll
  cases hm : mayB l.gen (l.segs ++ [(l.gen, (l.next : Int))])
  · have HM := Lib.hid hm
    have HROT := Lib.hid (show lgRotate st l = ((st, l), 4) from by unfold lgRotate; rw [if_pos hm])
    clear hm
    go_wp2_with fail
    go_region_held3 (fun w' => w'.cell? ⟨w.heap.size, 0, none⟩ = some (.pointer (some ⟨g, 0, none⟩)) ∧ w'.cell? ⟨g, 4, none⟩ = some (.int .i64 l.gen) ∧ w'.cell? ⟨g, 5, none⟩ = some (.slice a0 l.segs.length c0)) (first | exact ⟨q0, g4, g5⟩ | exact ⟨x0, x1, x2⟩ | (refine ⟨?_, ?_, ?_⟩ <;> ((repeat rw [World.cell?_setCell_other _ _ _ _ (by intro e; have e2 := congrArg Addr.block e; simp at e2; omega)]); first | exact x0 | exact x1 | exact x2)) | go_keep) (first
      | (go_at_call 106; refine (HCON.out _ (by repeat (first | exact Below.refl _ _ | refine Below.drew ?_ | refine Below.alloc ?_ (by first | (simp; done) | (simp; omega) | omega) _))).mono ?_; rintro e w3 ⟨hb3, hpost⟩; rw [HM.out] at hpost; simp only [Bool.false_eq_true, if_false] at hpost; subst hpost; have B3 := Below.trans (show Below w2.heap.size w2 _ from (by repeat (first | exact Below.refl _ _ | refine Below.drew ?_ | refine Below.alloc ?_ (by first | (simp; done) | (simp; omega) | omega) _))) (hb3.mono (by first | (simp; done) | (simp; omega) | omega)); have x0 := (B3.cell (p := ⟨w.heap.size, 0, none⟩) hlq).trans q0; have x1 := (B3.cell (p := ⟨g, 4, none⟩) hgl).trans g4; have x2 := (B3.cell (p := ⟨g, 5, none⟩) hgl).trans g5; (first | (have bx := (hb3.block w2.heap.size (by simp)).trans (alloc_at_top _ _ rfl); have n0 := cell_of_row _ _ 0 _ _ _ bx; have n1 := cell_of_row _ _ 1 _ _ _ bx; have zf : ∀ j : Nat, World.frozen? w3 ⟨w2.heap.size, j, none⟩ = false := fun j => frozen_of_row _ _ _ _ _ bx; simp at n0 n1; clear bx) | skip); have HB3 := Lib.hid B3; unfold noMan; clear B3 hb3))
    all_goals
      go_wp2
      go_ret
      rw [HROT.out]
      refine ⟨rfl, H0.out.stay (HBW.out.trans ?_)⟩
      first
        | exact (((HB3.out.setCell (Nat.le_refl _) _).setCell (Nat.le_refl _) _)).mono hws
        | exact (HB3.out.alloc HB3.out.size _).mono hws
  · have HM := Lib.hid hm
    clear hm
    go_wp2_with fail
    go_region_held3 (fun w' => w'.cell? ⟨w.heap.size, 0, none⟩ = some (.pointer (some ⟨g, 0, none⟩)) ∧ w'.cell? ⟨g, 4, none⟩ = some (.int .i64 l.gen) ∧ w'.cell? ⟨g, 5, none⟩ = some (.slice a0 l.segs.length c0)) (first | exact ⟨q0, g4, g5⟩ | exact ⟨x0, x1, x2⟩ | (refine ⟨?_, ?_, ?_⟩ <;> ((repeat rw [World.cell?_setCell_other _ _ _ _ (by intro e; have e2 := congrArg Addr.block e; simp at e2; omega)]); first | exact x0 | exact x1 | exact x2)) | go_keep) (first
      | (go_at_call 106; refine (HCON.out _ (by repeat (first | exact Below.refl _ _ | refine Below.drew ?_ | refine Below.alloc ?_ (by first | (simp; done) | (simp; omega) | omega) _))).mono ?_; rintro e w3 ⟨hb3, hpost⟩; rw [HM.out] at hpost; simp only [if_true] at hpost; obtain ⟨v, hv, hvb, rfl⟩ := hpost; obtain ⟨eB, cE, rfl⟩ := own_some hv (by rw [HLL.out]; omega); rw [HLL.out]; have hve := hvb eB rfl; have hvl := own_below hv (show _ = some eB from rfl); have HV := Lib.hid hv; (try simp at hve); have B3 := Below.trans (show Below w2.heap.size w2 _ from (by repeat (first | exact Below.refl _ _ | refine Below.drew ?_ | refine Below.alloc ?_ (by first | (simp; done) | (simp; omega) | omega) _))) (hb3.mono (by first | (simp; done) | (simp; omega) | omega)); have x0 := (B3.cell (p := ⟨w.heap.size, 0, none⟩) hlq).trans q0; have x1 := (B3.cell (p := ⟨g, 4, none⟩) hgl).trans g4; have x2 := (B3.cell (p := ⟨g, 5, none⟩) hgl).trans g5; (first | (have bx := (hb3.block w2.heap.size (by simp)).trans (alloc_at_top _ _ rfl); have n0 := cell_of_row _ _ 0 _ _ _ bx; have n1 := cell_of_row _ _ 1 _ _ _ bx; have zf : ∀ j : Nat, World.frozen? w3 ⟨w2.heap.size, j, none⟩ = false := fun j => frozen_of_row _ _ _ _ _ bx; simp at n0 n1; have HBX := Lib.hid bx; clear bx) | skip); have s3 := hb3.size; (try simp at s3); have HB3 := Lib.hid B3; clear B3 hb3 hv hvb))
    all_goals
      go_upto_if 36 with fail
      go_cut [6] (fun m wx => ∃ mB eB cE, m = .pointer (some ⟨mB, 0, none⟩) ∧ w.heap.size ≤ mB ∧ w.heap.size ≤ eB ∧ eB < wx.heap.size ∧ wx.cell? ⟨mB, 0, none⟩ = some (.int .i64 l.gen) ∧ wx.cell? ⟨mB, 1, none⟩ = some (.slice (some ⟨eB, 0, none⟩) (l.segs.length + 1) cE) ∧ SegsAt wx (.slice (some ⟨eB, 0, none⟩) (l.segs.length + 1) cE) (l.segs ++ [(l.gen, (l.next : Int))]) ∧ Below w2.heap.size w2 wx)
      case first =>
        go_wp2
        go_meet
        have hv8 := HV.out.at
        rw [HLL.out] at hv8
        first
          | exact ⟨w3.heap.size, eB, cE, rfl, by omega, by omega, by simp; omega, by rw [World.cell?_alloc_at _ _ _ _ rfl]; rfl, by rw [World.cell?_alloc_at _ _ _ _ rfl]; rfl, hv8.pure ((Below.refl _ _).alloc (Nat.le_refl _) _), HB3.out.alloc HB3.out.size _⟩
          | (have hq := heap_setCell_same _ w2.heap.size 1 _ _ (.slice (some ⟨eB, 0, none⟩) (l.segs.length + 1) cE) (heap_setCell_same w3 w2.heap.size 0 _ _ (.int .i64 l.gen) HBX.out)
             have hn : ∀ c, (Value.slice (some ⟨eB, 0, none⟩) (l.segs.length + 1) c).ownBlock ≠ some w2.heap.size := fun c e => by have e9 := Option.some.inj e; simp at e9; omega
             have hv9 := HV.out
             unfold OwnSegs at hv9
             rw [HLL.out] at hv9
             have ho9 := ownsRow_setCell_other (a := ⟨w2.heap.size, 1, none⟩) (ownsRow_setCell_other (a := ⟨w2.heap.size, 0, none⟩) hv9 (hn cE) (.int .i64 l.gen)) (hn cE) (.slice (some ⟨eB, 0, none⟩) (l.segs.length + 1) cE)
             rw [← HLL.out] at ho9
             have ha9 := OwnSegs.at ho9
             rw [HLL.out] at ha9
             exact ⟨w2.heap.size, eB, cE, rfl, by omega, by omega, by simp; omega, (cell_of_row _ _ _ _ _ _ hq).trans rfl, (cell_of_row _ _ _ _ _ _ hq).trans rfl, ha9, ((HB3.out.setCell (Nat.le_refl _) _).setCell (Nat.le_refl _) _)⟩)
      case rest =>
        obtain ⟨mB, eB', cE', rfl, h1, h2, h3, h4, h5, h6, h7⟩ := hcut
        apply_assumption
        exact rot_mid w wc F g p b st l H0.out (HBW.out.trans (h7.mono hws)) HM.out r HR.out w.heap.size mB eB' cE' (Nat.le_refl _) h1 h2 ((h7.cell (p := ⟨w.heap.size, 0, none⟩) hlq).trans q0) h4 h5 h6 h3
end Go.Proofs.YtcdjckdbcffgdaaGreatDoor

/- What Append leaves in memory. -/
namespace Go.Proofs.YtcdjckdbcffgdaaGreatDoor
open Go.RowKit

theorem markL_snoc {ev : Nat} (h : 0 < ev) (q : Nat) (ps : List (List UInt8)) (p : List UInt8) : markL ev q (SgIx.next (q, ps)) (SgIx.good (q, ps)) (marks ev q ps) = marks ev q (ps ++ [p]) := by
  rw [marks_snoc h]
  unfold markL SgIx.next SgIx.good
  simp only
  rw [show q + ps.length - q = ps.length from by omega, segBytes_length]
  split <;> simp

set_option maxHeartbeats 1000000 in
/-- The last index has a frame more. -/
theorem add_post {w w1 w2 : World} {F : Nat → Prop} {g p b : Nat} {st st1 : DkSt} {l : LgSt} (H0 : LgEnv w F g p b st l) (H1 : LgEnv w1 F g p b st1 l) (HFR : DFr p b w w1) {pl : List UInt8} (hp : payOk pl) (hn : l.next < 1048576) (hg : l.lastIx.good + 16 + pl.length ≤ 1048576)
    {S : Nat → Prop} {sv iv sv' : Value} {xs : List (Nat × Value)} (HC : LgC w1 S g p l sv iv xs) (HSF : ∀ k, S k → F k) (hsF : ∀ k, sv.ownBlock = some k → F k) (h0 : 0 < xs.length)
    (hix : IsIx w2 (xs[xs.length - 1]'(by omega)).1 l.ev l.lastIx.1 (l.next + 1) (l.lastIx.good + 16 + pl.length) sv' (markL l.ev l.lastIx.1 l.next l.lastIx.good (marks l.ev l.lastIx.1 l.lastIx.2)))
    (hw : Went w1 (xs[xs.length - 1]'(by omega)).2 sv') (hf : Fr (fun k => k = (xs[xs.length - 1]'(by omega)).1) w1 w2) : LgLeft w F g p b (st1, l.add pl) w2 := by
  have hxl := HC.len
  have hpos := H0.ok.pos
  have hlen := H0.ok.len
  have hlast := lastIx_eq (l := l) (by omega)
  have hlt := HC.ixs (xs.length - 1) (by omega) (by omega)
  have hsx := HC.sx _ (List.getElem_mem (by omega : xs.length - 1 < xs.length))
  obtain ⟨X, hX⟩ : ∃ X, X = xs[xs.length - 1]'(by omega) := ⟨_, rfl⟩
  rw [← hX] at hix hw hlt hsx
  rw [← hX] at hf
  have hXF := HSF _ hsx.1
  have hXw := H0.lt _ hXF
  have hs1 := HFR.size
  have hs2 := hf.size
  have hpw := H0.dk.lt
  have hbw := H0.dk.own.lt
  have hPW : PW < w.heap.size := pow_lt H0.pow
  have hev : 0 < l.ev := by obtain ⟨ev, h1, h2, h3, h4⟩ := ev_nat H0.ok.cfg; unfold LgSt.ev; omega
  have hsplit : xs = xs.dropLast ++ [X] := by
    rw [hX, ← List.getLast_eq_getElem (by intro e; rw [e] at h0; simp at h0), List.dropLast_concat_getLast]
  have hnewS : ∀ k, (S k ∨ sv'.ownBlock = some k) → S k ∨ w1.heap.size ≤ k := by
    rintro k (h | h)
    · exact .inl h
    · rcases hw with h2 | ⟨g2, h2, h3⟩
      · rw [h2] at h; exact .inl (hsx.2 k h)
      · rw [h2] at h; obtain rfl := Option.some.inj h; exact .inr h3
  have hltS : ∀ k, (S k ∨ sv'.ownBlock = some k) → k < w2.heap.size := by
    rintro k (h | h)
    · have := HC.lt k h; omega
    · exact own_below hix.own h
  have hnew : ∀ k, (F k ∨ sv'.ownBlock = some k) → F k ∨ w.heap.size ≤ k := by
    rintro k (h | h)
    · exact .inl h
    · rcases hnewS k (.inr h) with h2 | h2
      · exact .inl (HSF k h2)
      · exact .inr (by omega)
  have hok : LgOk (l.add pl) := H0.ok.add hp hn hg
  refine ⟨fun k => F k ∨ sv'.ownBlock = some k, ⟨⟨sv, iv, xs.dropLast ++ [(X.1, sv')], fun k => S k ∨ sv'.ownBlock = some k, ⟨?_, ?_, ?_, ?_, ?_, ?_, .inl HC.sg, ?_, ?_, ?_, hltS⟩, ?_, fun k hk => .inl (hsF k hk), ?_⟩, ?_, ?_, hok, ?_, H0.pw⟩, ?_, hnew⟩
  · exact hf.heapAt HC.cell (fun e => two_types HC.cell hlt.cell (by decide) e)
  · exact HC.segs.kept hf fun k hk e => HC.sfar k hk (by rw [e]; exact hsx.1)
  · intro k hk h
    rcases hnewS k h with h2 | h2
    · exact HC.sfar k hk h2
    · have := H0.lt k (hsF k hk); omega
  · have e : (xs.dropLast ++ [(X.1, sv')]).map ixPtr = xs.map ixPtr := by
      conv => rhs; rw [hsplit]
      simp [ixPtr]
    have e2 : (l.add pl).ix.length = l.ix.length := add_len l pl (by omega)
    rw [e, e2]
    refine hf.ownsRow HC.row fun k hk e3 => ?_
    obtain ⟨c9, h9⟩ := row_block HC.row hk
    exact two_types h9 hlt.cell (by decide) e3
  · have e2 : (l.add pl).ix.length = l.ix.length := add_len l pl (by omega)
    rw [e2]; simp; omega
  · intro i hi hi'
    have eev : (l.add pl).ev = l.ev := rfl
    have hi2 : i < xs.length := by simp at hi; omega
    rw [add_get l pl i hi' (by omega), eev]
    by_cases hc : i + 1 = l.ix.length
    · rw [if_pos hc]
      have h2 : (xs.dropLast ++ [(X.1, sv')])[i] = (X.1, sv') := by rw [List.getElem_append_right (by simp; omega)]; simp
      rw [h2]
      have h3 : SgIx.next (l.lastIx.1, l.lastIx.2 ++ [pl]) = l.next + 1 := by unfold LgSt.next SgIx.next; simp; omega
      have h4 : SgIx.good (l.lastIx.1, l.lastIx.2 ++ [pl]) = l.lastIx.good + 16 + pl.length := good_snoc _ _ _
      rw [h3, h4]
      have h5 := markL_snoc hev l.lastIx.1 l.lastIx.2 pl
      show IsIx w2 X.1 l.ev l.lastIx.1 _ _ sv' (marks l.ev l.lastIx.1 (l.lastIx.2 ++ [pl]))
      rw [← h5]
      exact hix
    · rw [if_neg hc]
      have hi3 : i < xs.dropLast.length := by simp; omega
      have h2 : (xs.dropLast ++ [(X.1, sv')])[i] = xs[i] := by rw [List.getElem_append_left hi3, List.getElem_dropLast]
      rw [h2]
      have h1 := HC.ixs i hi2 (by omega)
      have hap := List.pairwise_iff_getElem.1 HC.apart i (xs.length - 1) hi2 (by omega) (by omega)
      rw [← hX] at hap
      refine h1.kept hf hap.1 fun k hk e => ?_
      obtain ⟨c9, h9⟩ := row_block h1.own hk
      exact two_types h9 hlt.cell (by decide) e
  · intro k hk
    exact .inl (HC.siv k hk)
  · intro y hy
    rcases List.mem_append.1 hy with h | h
    · have hm : y ∈ xs := by rw [hsplit]; exact List.mem_append_left _ h
      exact ⟨.inl (HC.sx y hm).1, fun k hk => .inl ((HC.sx y hm).2 k hk)⟩
    · rw [List.mem_singleton.1 h]
      exact ⟨.inl hsx.1, fun k hk => .inr hk⟩
  · have hap := HC.apart
    rw [hsplit] at hap
    obtain ⟨a1, _, a3⟩ := List.pairwise_append.1 hap
    refine List.pairwise_append.2 ⟨a1, List.pairwise_singleton _ _, fun y hy z hz => ?_⟩
    rw [List.mem_singleton.1 hz]
    have h1 := a3 y hy X (by simp)
    refine ⟨h1.1, fun k hk e => ?_⟩
    have hm : y ∈ xs := by rw [hsplit]; exact List.mem_append_left _ hy
    rcases hw with h2 | ⟨g2, h2, h3⟩
    · rw [h2] at e; exact h1.2 k hk e
    · rw [h2] at e
      obtain rfl := Option.some.inj e
      have := HC.lt _ ((HC.sx y hm).2 g2 hk)
      omega
  · rintro k (h | h)
    · exact .inl (HSF k h)
    · exact .inr h
  · rintro k (h | h)
    · have := H0.lt k h; omega
    · exact own_below hix.own h
  · exact H1.dk.kept hf (fun e => (H0.far _ hXF).1 e.symm) (fun e => (H0.far _ hXF).2.1 e.symm)
  · exact hf.pow H1.pow (fun e => (H0.far _ hXF).2.2 e.symm)
  · intro k hk
    rcases hnew k hk with h | h
    · exact H0.far k h
    · exact ⟨by omega, by omega, by omega⟩
  · refine (HFR.mono fun k _ h => .inr h).trans (hf.mono fun k _ h => .inl ?_)
    rw [h]; exact hXF
end Go.Proofs.YtcdjckdbcffgdaaGreatDoor

/- Append: the frame is made, and written. -/
namespace Go.Proofs.YtcdjckdbcffgdaaGreatDoor
open Go.RowKit

/-- What Append tells, and leaves. -/
def AppPost (w : World) (F : Nat → Prop) (g p b : Nat) (n : Nat) (r : (DkSt × LgSt) × Int) (e : Ending) (w' : World) : Prop := e = .returned (.tuple #[.int .i64 (if r.2 = 0 then (n : Int) else 0), .int .i64 r.2]) ∧ LgLeft w F g p b r.1 w'
theorem app_ok {w : World} {F : Nat → Prop} {g p b n : Nat} {r : (DkSt × LgSt) × Int} {s : DkSt × LgSt} {w' : World} (hr : r = (s, 0)) (h : LgLeft w F g p b s w') : AppPost w F g p b n r (.returned (.tuple #[.int .i64 (n : Int), .int .i64 0])) w' := by subst hr; exact ⟨rfl, h⟩
theorem app_no {w : World} {F : Nat → Prop} {g p b n : Nat} {r : (DkSt × LgSt) × Int} {s : DkSt × LgSt} {c : Int} {w' : World} (hr : r = (s, c)) (hc : c ≠ 0) (h : LgLeft w F g p b s w') : AppPost w F g p b n r (.returned (.tuple #[.int .i64 0, .int .i64 c])) w' := by subst hr; exact ⟨by simp [hc], h⟩

set_option maxRecDepth 100000 in
set_option maxHeartbeats 4000000 in
theorem app_put (w : World) (F : Nat → Prop) (g p b : Nat) (st : DkSt) (l : LgSt) (h0 : LgEnv w F g p b st l) (x : ByteArray) (hp : payOk x.data.toList) (hn : l.next < 1048576) (hg : l.lastIx.good + 16 + x.data.toList.length ≤ 1048576) (w0 : World) (F0 : Nat → Prop) (n0 : Nat) (r0 : (DkSt × LgSt) × Int) (hQ : ∀ e w', AppPost w F g p b l.next (lgPut st l x.data.toList) e w' → AppPost w0 F0 g p b n0 r0 e w') {u2 u3 u4 u5 u6 u7 u8 u9 u10 u11 u12 u13 u14 u15 u16 u17 u18 u19 u20 u21 u22 u23 u24 u25 u26 u27 u28 u29 u30 u31 u32 u33 u34 u35 u36 u37 u38 u39 u40 u41 u42 u43 u44 u45 u46 u47 u48 u49 u50 u51 u52 u53 u54 u55 u56 u57 u58 u59 u60 u61 u62 u63 u64 u65 u66 u67 u68 u69 u70 u71 u72 u73 u74 u75 u76 u77 u78 u79 u80 u81 u82 u83 u84 u85 u86 : Value} :
    Code.wp Tryz.prog (dropS 5 (Tryz.f14.body.getD .skip)) (bodyPost Tryz.prog Tryz.f14 fun e w' => AppPost w0 F0 g p b n0 r0 e w') { tmps := (List.toArray (.pointer (some ⟨g, 0, none⟩) :: .string x :: u2 :: u3 :: u4 :: u5 :: u6 :: u7 :: u8 :: u9 :: u10 :: u11 :: u12 :: u13 :: u14 :: u15 :: u16 :: u17 :: u18 :: u19 :: u20 :: u21 :: u22 :: u23 :: u24 :: u25 :: u26 :: u27 :: u28 :: u29 :: u30 :: u31 :: u32 :: u33 :: u34 :: u35 :: u36 :: u37 :: u38 :: u39 :: u40 :: u41 :: u42 :: u43 :: u44 :: u45 :: u46 :: u47 :: u48 :: u49 :: u50 :: u51 :: u52 :: u53 :: u54 :: u55 :: u56 :: u57 :: u58 :: u59 :: u60 :: u61 :: u62 :: u63 :: u64 :: u65 :: u66 :: u67 :: u68 :: u69 :: u70 :: u71 :: u72 :: u73 :: u74 :: u75 :: u76 :: u77 :: u78 :: u79 :: u80 :: u81 :: u82 :: u83 :: u84 :: u85 :: u86 :: [])), defers := [] } w := by
  have H0 := Lib.hid h0
  have HQQ := Lib.hid hQ
  clear hQ
  have hfew := h0.ok.few
  have hpos := h0.ok.pos
  have hlen := h0.ok.len
  have hx1 : 1 ≤ x.size := by have := hp.1; rw [size_toList] at this; omega
  have hx2 : x.size ≤ 4096 := by have := hp.2; rw [size_toList] at this; omega
  have HP := Lib.hid hp
  have HG := Lib.hid hg
  have hgood : l.lastIx.good ≤ 1048576 := h0.ok.last.2.1
  obtain ⟨ev, hev0, hev1, hev2, hev3⟩ := ev_nat h0.ok.cfg
  have HEV := Lib.hid (show l.ev = ev from hev3)
  have hgF : F g := by obtain ⟨_, _, _, _, h5, h6, _⟩ := h0.lg; exact h6 g h5.sg
  have hgfar := h0.far g hgF
  have hgp := hgfar.1
  have hgb := hgfar.2.1
  clear h0 hp hg hev0 hev3 hgfar
  conv => arg 2; whnf
  go_wp2_with fail
  refine (lg_next w F g p l H0.out.lg (by omega) (by omega)).mono ?_
  rintro e w2 ⟨rfl, hb2⟩
  have HB2 := Lib.hid hb2
  clear hb2
  go_wp2_with fail
  refine (frmake_ok l.next x w2 hn hx1 hx2).mono ?_
  rintro e w3 ⟨⟨f, hf, rfl⟩, hb3⟩
  have hbw := HB2.out.trans (hb3.mono HB2.out.size)
  have henv := H0.out.pure hbw
  have HF := Lib.hid hf
  have hfs : f.size ≤ 140737488355328 := by have h1 := size_of_list hf; simp only at h1; rw [frBytes_length, size_toList] at h1; omega
  obtain ⟨_, _, _, _, hc, _⟩ := henv.lg
  obtain ⟨g0, _⟩ := hc.cs
  have hgl := hc.gl
  have HENV := Lib.hid henv
  have HBW := Lib.hid hbw
  have HN := Lib.hid (fun W (hb : Below w3.heap.size w3 W) => lg_name W (below_pow hb henv.pow) F g p l (henv.lg.pure hb) (by omega) (by omega))
  have HLN := Lib.hid henv.ok.name_len
  clear henv hbw hb3 hf hc
  go_wp2_with fail
  go_region_held3 (fun w' => w'.cell? ⟨g, 0, none⟩ = some (.pointer (some ⟨p, 0, none⟩))) (first | exact g0 | exact c9 | exact c8 | go_keep) (first
    | (go_at_call 58; refine (HN.out _ (by first | exact Below.refl _ _ | exact (Below.refl _ _).drew)).mono ?_; rintro e w4 ⟨⟨r, hr, rfl⟩, hb4⟩; have HR := Lib.hid hr; have HRL := Lib.hid (show r.size ≤ maxLen by have := size_of_list hr; have := HLN.out; unfold maxLen; omega); have HB4 := Lib.hid ((show Below w3.heap.size w3 _ by first | exact Below.refl _ _ | exact (Below.refl _ _).drew).trans hb4); have c9 := (hb4.cell (p := ⟨g, 0, none⟩) hgl).trans g0; clear hr hb4)
    | (go_at_call 25; refine (dk_append _ p b st (HENV.out.dk.pure HB4.out) r f HRL.out hfs).mono ?_; rintro e w5 ⟨rfl, hd5, hf5⟩; have HD5 := Lib.hid hd5; have HF5 := Lib.hid (And.intro hf5 HR.out); have c8 := IsDk.ofD hf5 c9 hgp hgb; clear hd5 hf5))
  have hcode : dkAppend st r.data.toList f.data.toList = dkAppend st l.name (frBytes l.next x.data.toList) := by rw [HF5.out.2, HF.out]
  obtain ⟨RR, hRR⟩ : ∃ RR, RR = dkAppend st l.name (frBytes l.next x.data.toList) := ⟨_, rfl⟩
  rw [hcode, ← hRR] at HD5 ⊢
  have HPUT := Lib.hid (show lgPut st l x.data.toList = if RR.2 ≠ 0 then ((RR.1, l), RR.2) else ((RR.1, l.add x.data.toList), 0) from by unfold lgPut; rw [hRR])
  have hfr : DFr p b w w5 := (Fr.pure (HBW.out.trans (HB4.out.mono HBW.out.size))).trans HF5.out.1
  have henv5 := H0.out.disk HD5.out hfr
  have HENV5 := Lib.hid henv5
  have HFR := Lib.hid hfr
  clear hcode hRR hfr
  by_cases hz : RR.2 = 0
  · have HRES := Lib.hid (HPUT.out.trans (if_neg (by simpa using hz)))
    rw [hz]
    clear hz
    obtain ⟨sv, iv, xs, S, hc5, hSF, hsF, _⟩ := henv5.lg
    have hxl := hc5.len
    have HLAST := Lib.hid (hc5.last (by omega))
    have HC5 := Lib.hid (And.intro hc5 (And.intro hSF hsF))
    have HO := Lib.hid (lg_open w5 S g p l sv iv xs hc5 (by omega) (by omega))
    have hXX : 0 < xs.length := by omega
    obtain ⟨X, hX⟩ : ∃ X, X = xs[xs.length - 1]'(by omega) := ⟨_, rfl⟩
    rw [← hX] at HLAST HO
    have HX := Lib.hid hX
    have hq9 : l.lastIx.1 ≤ l.next := by unfold LgSt.next SgIx.next; omega
    have hml : (marks l.ev l.lastIx.1 l.lastIx.2).length ≤ 2097152 := by
      have h1 := marks_le (ev := l.ev) (by rw [HEV.out]; omega) l.lastIx.1 l.lastIx.2
      have h2 : l.next = l.lastIx.1 + l.lastIx.2.length := rfl
      omega
    clear henv5 hc5 hSF hsF hX
    go_wp2_with fail
    refine HO.out.mono ?_
    rintro e w6 ⟨rfl, hb6⟩
    have HB6 := Lib.hid hb6
    unfold ixPtr
    clear hb6
    go_wp2_with fail
    refine (ix_add w6 X.1 l.ev l.lastIx.1 l.next l.lastIx.good x.size X.2 _ (HLAST.out.pure HB6.out) (by rw [HEV.out]; omega) (by rw [HEV.out]; omega) hq9 hn hml (by omega) hx1 hx2).mono ?_
    rintro e w7 ⟨rfl, sv', hix, hwent, hfx⟩
    have HIX := Lib.hid (And.intro hix (And.intro hwent hfx))
    clear hix hwent hfx
    go_wp2
    refine bodyPost_ret (v := .tuple #[.int .i64 (l.next : Int), .int .i64 0]) (by simp [results, Tryz.results14, go_sem]) rfl ?_
    have hxx := HX.out
    subst hxx
    have hi := HIX.out
    rw [← size_toList x] at hi
    exact HQQ.out _ _ <| app_ok HRES.out (add_post H0.out (HENV5.out.pure HB6.out) (HFR.out.trans (Fr.pure HB6.out)) HP.out hn HG.out (HC5.out.1.pure HB6.out) HC5.out.2.1 HC5.out.2.2 hXX hi.1 hi.2.1 hi.2.2)
  · have HRES := Lib.hid (HPUT.out.trans (if_pos (by simpa using hz)))
    have hne : (RR.2 == 0) = false := by simpa using hz
    have hnn : (RR.2 != 0) = true := by simpa using hz
    have HZ := Lib.hid hz
    clear hz henv5
    go_wp2
    refine bodyPost_ret (v := .tuple #[.int .i64 0, .int .i64 RR.2]) (by simp [results, Tryz.results14, go_sem]) rfl ?_
    exact HQQ.out _ _ <| app_no HRES.out HZ.out ⟨F, HENV5.out, HFR.out.mono fun k _ h => .inr h, fun k hk => .inl hk⟩
end Go.Proofs.YtcdjckdbcffgdaaGreatDoor
