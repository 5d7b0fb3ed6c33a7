/- seglog, plainly: what opening a log finds, and what it leaves. -/
import Derived.Test.YtcdjckdbcffgdaaGreatDoorMAo
import Derived.Test.YtcdjckdbcffgdaaGreatDoorMDd
import Derived.Test.YtcdjckdbcffgdaaGreatDoorMBe
import Derived.Test.YtcdjckdbcffgdaaGreatDoorMAv
import Derived.Test.YtcdjckdbcffgdaaGreatDoorMAn
namespace Go.Proofs.YtcdjckdbcffgdaaGreatDoor

/-- What Open does, and tells. -/
noncomputable def lgOpen (st : DkSt) (c : Cfg) : DkSt × Int × Option LgSt :=
  if cfgOk c = false then (st, 1, none)
  else if (loadF st).2.2 ≠ 0 then (st, (loadF st).2.2, none)
  else if (runL (openF (loadF st).2.1.length) (st, (⟨c, (loadF st).1, (loadF st).2.1, []⟩ : LgSt))).2 ≠ 0 then
    ((runL (openF (loadF st).2.1.length) (st, (⟨c, (loadF st).1, (loadF st).2.1, []⟩ : LgSt))).1.1, (runL (openF (loadF st).2.1.length) (st, (⟨c, (loadF st).1, (loadF st).2.1, []⟩ : LgSt))).2, none)
  else ((runL (openF (loadF st).2.1.length) (st, (⟨c, (loadF st).1, (loadF st).2.1, []⟩ : LgSt))).1.1, 0, some (runL (openF (loadF st).2.1.length) (st, (⟨c, (loadF st).1, (loadF st).2.1, []⟩ : LgSt))).1.2)

theorem load_man {st : DkSt} {g : Int} {m : Segs} (hd : st.dark = false) (hm : mayB g m = true) (h : fsGet st.fs fileN = some ⟨fileN, Crc.seal_ (manBytes g m), []⟩) : loadF st = (g, m, 0) := by
  have e1 : dkRead st fileN = (Crc.seal_ (manBytes g m), 0) := by unfold dkRead; rw [hd, h]; simp
  obtain ⟨h4, h5⟩ := sealed_seal (manBytes g m)
  have e2 : (Crc.seal_ (manBytes g m)).take ((Crc.seal_ (manBytes g m)).length - 4) = manBytes g m := by
    rw [Crc.seal_length, show (manBytes g m).length + 4 - 4 = (manBytes g m).length from by omega]
    unfold Crc.seal_
    exact List.take_left' rfl
  unfold loadF
  rw [e1, if_neg (by simp)]
  unfold readF
  simp only
  rw [if_neg (by omega), if_pos h5, e2, parse_make hm]

/-! ### What a scan finds -/
theorem scan_all {q : Nat} {ps : List (List UInt8)} (hq : q ≤ 1048576) (h : frOk q ps) : sgScan (segBytes q ps) = (0, (q, ps)) := by
  unfold sgScan segBytes
  rw [first_head hq, if_neg (by simp), List.drop_left' (segHead_length q)]
  have hl : ps.length ≤ (segHead q ++ frames q ps).length := by rw [List.length_append]; have := frames_length_le (q := q) (a := ps); omega
  have e := scan_frames (n := (segHead q ++ frames q ps).length) (tail := []) h hl
  rw [List.append_nil] at e
  rw [e, scan_stop (by rw [frRead_nil]; simp), List.append_nil]
theorem frames_take_le (q : Nat) (ps : List (List UInt8)) (j : Nat) : ∃ t, frames q ps = frames q (ps.take j) ++ t := by
  refine ⟨frames (q + (ps.take j).length) (ps.drop j), ?_⟩
  rw [← frames_append, List.take_append_drop]
theorem frames_mono (q : Nat) (ps : List (List UInt8)) {i j : Nat} (h : i ≤ j) : (frames q (ps.take i)).length ≤ (frames q (ps.take j)).length := by
  obtain ⟨t, ht⟩ := frames_take_le q (ps.take j) i
  rw [List.take_take, Nat.min_eq_left h] at ht
  rw [ht, List.length_append]; omega
theorem scan_more {d : Nat} : ∀ {n q : Nat} {t : List UInt8}, t.length ≤ n → scanF (n + d) q t = scanF n q t := by
  intro n
  induction n with
  | zero =>
    intro q t h
    rw [List.eq_nil_of_length_eq_zero (by omega : t.length = 0), scan_stop (by rw [frRead_nil]; simp), scan_stop (by rw [frRead_nil]; simp)]
  | succ n ih =>
    intro q t h
    rw [show n + 1 + d = (n + d) + 1 from by omega, scanF, scanF]
    split
    · rw [ih (by rw [List.length_drop]; omega)]
    · rfl
/-- Of a beginning of a segment's bytes: the frames that are there whole. -/
theorem scan_part {q : Nat} {ps : List (List UInt8)} (hq : q ≤ 1048576) (h : frOk q ps) {k : Nat} (h16 : 16 ≤ k) (hk : k ≤ (segBytes q ps).length) :
    ∃ j, j ≤ ps.length ∧ sgScan ((segBytes q ps).take k) = (0, (q, ps.take j)) ∧ SgIx.good (q, ps.take j) ≤ k ∧ ((segBytes q ps).take k).take (SgIx.good (q, ps.take j)) = segBytes q (ps.take j) ∧
      (∀ i, i ≤ ps.length → (segBytes q (ps.take i)).length ≤ k → i ≤ j) := by
  have e0 : (segBytes q ps).take k = segHead q ++ (frames q ps).take (k - 16) := by
    unfold segBytes
    rw [List.take_append, segHead_length, List.take_of_length_le (by rw [segHead_length]; omega)]
  have hlk : ((segBytes q ps).take k).length = k := by rw [List.length_take]; omega
  obtain ⟨j, hj, e1, hmax⟩ := scan_cut (n := k + ps.length) (k := k - 16) h (by omega)
  rw [scan_more (by rw [List.length_take]; omega)] at e1
  have hsc : sgScan ((segBytes q ps).take k) = (0, (q, ps.take j)) := by
    unfold sgScan
    rw [hlk, e0, first_head hq, if_neg (by simp), List.drop_left' (segHead_length q), e1]
  have hj2 : (frames q (ps.take j)).length ≤ k - 16 := by
    obtain ⟨_, tail, ht⟩ := scan_back (n := k) (q := q) (t := (frames q ps).take (k - 16))
    rw [e1] at ht
    have h2 := congrArg List.length ht
    rw [List.length_append, List.length_take] at h2
    omega
  obtain ⟨t, ht⟩ := frames_take_le q ps j
  have hg : SgIx.good (q, ps.take j) = 16 + (frames q (ps.take j)).length := by unfold SgIx.good; rw [segBytes_length]
  refine ⟨j, hj, hsc, by omega, ?_, fun i hi hl => hmax i hi (by rw [segBytes_length] at hl; omega)⟩
  rw [List.take_take, Nat.min_eq_left (by omega)]
  have e : segBytes q ps = segBytes q (ps.take j) ++ t := by unfold segBytes; rw [ht, List.append_assoc]
  rw [e]
  exact List.take_left' rfl

/-! ### Opening -/
/-- What is deleted, each thing there. -/
theorem del_run : ∀ (ns : List (List UInt8)) {st : DkSt}, On st → (∀ n ∈ ns, (fsGet st.fs n).isSome = true) → ns.Pairwise (· ≠ ·) →
    ∃ fs', runL (ns.map fun n st => dkDelete st n) st = ({ st with fs := fs' }, 0) ∧ (∀ m, m ∉ ns → fsGet fs' m = fsGet st.fs m) ∧ (∀ f ∈ fs', f ∈ st.fs ∧ f.name ∉ ns)
  | [], st, _, _, _ => ⟨st.fs, rfl, fun _ _ => rfl, fun f hf => ⟨hf, by simp⟩⟩
  | n :: r, st, hon, hin, hne => by
    obtain ⟨h1, h2⟩ := List.pairwise_cons.1 hne
    obtain ⟨f, hf⟩ := Option.isSome_iff_exists.1 (hin n (by simp))
    have e := delete_on hon hf
    obtain ⟨fs', e2, h3, h4⟩ := del_run r (st := { st with fs := fsDel st.fs n }) (hon.put _) (fun m hm => by simp only; rw [get_del_ne (h1 m hm)]; exact hin m (by simp [hm])) h2
    refine ⟨fs', ?_, fun m hm => ?_, fun g hg => ?_⟩
    · rw [List.map_cons, runL_ok e, e2]
    · rw [h3 m (by simp at hm; exact hm.2)]
      exact get_del_ne (fun e => hm (by rw [e]; simp)) _
    · obtain ⟨h5, h6⟩ := h4 g hg
      obtain ⟨h7, h8⟩ := mem_del.1 h5
      exact ⟨h7, by simp; exact ⟨h8, h6⟩⟩

/-- The files of a log's segments hold these, scanned so. -/
structure Sound (fs : Fs) (l : LgSt) : Prop where
  len : l.ix.length = l.segs.length
  mid : ∀ i (h : i + 1 < l.segs.length) (h' : i < l.ix.length), ∃ f, fsGet fs (nameOf l.segs[i]) = some f ∧ sgScan (f.firm ++ f.pend) = (0, l.ix[i]) ∧ SgIx.good l.ix[i] = (f.firm ++ f.pend).length
  fst : ∀ i (h : i < l.segs.length) (h' : i < l.ix.length), l.segs[i].2 = (l.ix[i].1 : Int)
  row : ∀ i (h : i + 1 < l.ix.length), l.ix[i + 1].1 = SgIx.next l.ix[i]

theorem segF_mid {st : DkSt} {l : LgSt} (hd : st.dark = false) (h : Sound st.fs l) (i : Nat) (hi : i + 1 < l.segs.length) : segF i (st, { l with ix := l.ix.take i }) = ((st, { l with ix := l.ix.take (i + 1) }), 0) := by
  have hl := h.len
  have hi' : i < l.ix.length := by omega
  obtain ⟨f, hf, hs, hg⟩ := h.mid i hi hi'
  have hF := h.fst i (by omega) hi'
  have hF2 := h.fst (i + 1) (by omega) (by omega)
  have hR := h.row i (by omega)
  have e1 : l.segs.getD i (0, 0) = l.segs[i] := by rw [List.getD_eq_getElem?_getD, List.getElem?_eq_getElem (by omega)]; rfl
  have e2 : l.segs.getD (i + 1) (0, 0) = l.segs[i + 1] := by rw [List.getD_eq_getElem?_getD, List.getElem?_eq_getElem (by omega)]; rfl
  have e3 : dkRead st (nameOf l.segs[i]) = (f.firm ++ f.pend, 0) := by unfold dkRead; rw [hd, hf]; simp
  have e4 : l.ix.take i ++ [l.ix[i]] = l.ix.take (i + 1) := (List.take_succ_eq_append_getElem hi').symm
  unfold segF
  simp only [e1, e2, e3, hs, e4, hg]
  rw [if_neg (by simp), if_neg (by simp), if_neg (by rw [hF]; simp), if_neg (by omega), if_neg (by omega), if_neg (by rw [hF2, hR]; simp)]
theorem segs_run {st : DkSt} {l : LgSt} (hd : st.dark = false) (h : Sound st.fs l) : ∀ (k i : Nat) (rest : List (DkSt × LgSt → (DkSt × LgSt) × Int)), i + k + 1 ≤ l.segs.length →
    runL ((List.range' i k).map segF ++ rest) (st, { l with ix := l.ix.take i }) = runL rest (st, { l with ix := l.ix.take (i + k) })
  | 0, i, rest, _ => rfl
  | k + 1, i, rest, hk => by
    rw [List.range'_succ, List.map_cons, List.cons_append, runL_ok (segF_mid hd h i (by omega)), segs_run hd h k (i + 1) rest (by omega), show i + 1 + k = i + (k + 1) from by omega]
/-- The last segment: what is there whole; the rest is trimmed. -/
theorem segF_last {st : DkSt} {l : LgSt} (hd : st.dark = false) (h : Sound st.fs l) (h0 : 0 < l.segs.length) {f : FileS} (hf : fsGet st.fs l.name = some f) (hs : sgScan (f.firm ++ f.pend) = (0, l.lastIx)) :
    segF (l.segs.length - 1) (st, { l with ix := l.ix.take (l.segs.length - 1) }) = if l.lastIx.good < (f.firm ++ f.pend).length then (((dkTrim st l.name l.lastIx.good).1, l), (dkTrim st l.name l.lastIx.good).2) else ((st, l), 0) := by
  have hl := h.len
  have hF := h.fst (l.segs.length - 1) (by omega) (by omega)
  have hn := name_eq h0
  have hx : l.lastIx = l.ix[l.segs.length - 1]'(by omega) := by rw [lastIx_eq (by omega)]; congr 1; omega
  have e1 : l.segs.getD (l.segs.length - 1) (0, 0) = l.segs[l.segs.length - 1]'(by omega) := by rw [List.getD_eq_getElem?_getD, List.getElem?_eq_getElem (by omega)]; rfl
  have e3 : dkRead st (nameOf (l.segs[l.segs.length - 1]'(by omega))) = (f.firm ++ f.pend, 0) := by unfold dkRead; rw [hd, ← hn, hf]; simp
  have e4 : l.ix.take (l.segs.length - 1) ++ [l.lastIx] = l.ix := by
    rw [hx, ← List.take_succ_eq_append_getElem (by omega), List.take_of_length_le (by omega)]
  unfold segF
  rw [← hn] at e3
  simp only [e1, ← hn, e3, hs, e4]
  rw [if_neg (by simp), if_neg (by simp), if_neg (by rw [hF, hx]; simp), if_pos (by omega)]
theorem range_last (n : Nat) (h : 0 < n) : List.range n = List.range' 0 (n - 1) ++ [n - 1] := by
  rw [List.range_eq_range']
  have := List.range'_concat (s := 0) (n := n - 1) (step := 1)
  rw [show n - 1 + 1 = n from by omega] at this
  simpa using this

theorem not_seg_file : ¬ isSeg fileN := by rintro ⟨g, f, h1, h2, e⟩; exact segName_not_M h1 h2 _ e.symm
theorem not_seg_fresh : ¬ isSeg freshN := by rintro ⟨g, f, h1, h2, e⟩; exact segName_not_M h1 h2 _ e.symm
theorem orph_iff {l : LgSt} {n : List UInt8} : orphB l n = true ↔ isSeg n ∧ n ∉ l.segs.map nameOf := by
  unfold orphB
  simp only [Bool.and_eq_true, decide_eq_true_eq, Bool.not_eq_true', List.contains_eq_mem, decide_eq_false_iff_not]
theorem seg_mem {l : LgSt} {i : Nat} (hi : i < l.segs.length) : nameOf l.segs[i] ∈ l.segs.map nameOf := List.mem_map_of_mem (List.getElem_mem hi)
theorem name_mem' {l : LgSt} (h0 : 0 < l.segs.length) : l.name ∈ l.segs.map nameOf := by rw [name_eq h0]; exact seg_mem _
theorem trim_on {st : DkSt} (h : On st) {n : List UInt8} {k : Nat} {f : FileS} (hg : fsGet st.fs n = some f) (hk : k ≤ f.firm.length + f.pend.length) : dkTrim st n k = ({ st with fs := fsPut st.fs ⟨n, (f.firm ++ f.pend).take k, []⟩ }, 0) :=
  (show dkTrim st n k = doing st (fsPut st.fs ⟨n, (f.firm ++ f.pend).take k, []⟩) from by unfold dkTrim; rw [h.lit, hg, if_neg (by decide)]; simp only; rw [if_neg (by omega)]).trans (doing_on h _)
theorem del_absent {fs : Fs} {n : List UInt8} (h : fsGet fs n = none) : fsDel fs n = fs := del_none h
theorem gone_on {st : DkSt} (h : On st) (n : List UInt8) : goneF n st = ({ st with fs := fsDel st.fs n }, 0) := by
  unfold goneF
  cases hg : fsGet st.fs n with
  | none => rw [delete_none h hg, del_absent hg]; rfl
  | some f => rw [delete_on h hg]; rfl

/-- Opening where there is power, and no cut to come. -/
theorem open_on {st : DkSt} {l : LgSt} (hon : On st) (ha : Apart st.fs) (hk : LgOk l) (hman : fsGet st.fs fileN = some ⟨fileN, Crc.seal_ (manBytes l.gen l.segs), []⟩) (honly : ∀ f ∈ st.fs, f.name = fileN ∨ f.name = freshN ∨ isSeg f.name)
    (hs : Sound st.fs l) {f : FileS} (hf : fsGet st.fs l.name = some f) (hsc : sgScan (f.firm ++ f.pend) = (0, l.lastIx)) (hgd : l.lastIx.good ≤ (f.firm ++ f.pend).length) :
    ∃ fs', lgOpen st l.cfg = ({ st with fs := fs' }, 0, some l) ∧ fsGet fs' fileN = fsGet st.fs fileN ∧ (∀ i (h : i + 1 < l.segs.length), fsGet fs' (nameOf l.segs[i]) = fsGet st.fs (nameOf l.segs[i])) ∧
      fsGet fs' l.name = (if l.lastIx.good < (f.firm ++ f.pend).length then some ⟨l.name, (f.firm ++ f.pend).take l.lastIx.good, []⟩ else some f) ∧ (∀ f ∈ fs', f.name = fileN ∨ f.name ∈ l.segs.map nameOf) := by
  have h0 := hk.pos
  have hln := load_man hon.lit hk.may hman
  obtain ⟨l0, hl0⟩ : ∃ l0 : LgSt, l0 = { l with ix := l.ix.take 0 } := ⟨_, rfl⟩
  have hl0e : (⟨l.cfg, l.gen, l.segs, []⟩ : LgSt) = l0 := by rw [hl0]; rfl
  have e1 : (fun s : DkSt × LgSt => ((((goneF freshN s.1).1, s.2), (goneF freshN s.1).2) : (DkSt × LgSt) × Int)) (st, l0) = (({ st with fs := fsDel st.fs freshN }, l0), 0) := by simp only [gone_on hon]
  obtain ⟨fs1, hfs1⟩ : ∃ x, x = fsDel st.fs freshN := ⟨_, rfl⟩
  rw [← hfs1] at e1
  have a1 : Apart fs1 := by rw [hfs1]; exact apart_del ha _
  have g1 : ∀ m, m ≠ freshN → fsGet fs1 m = fsGet st.fs m := fun m hm => by rw [hfs1]; exact get_del_ne (fun e => hm e.symm) _
  have on1 : On { st with fs := fs1 } := hon.put _
  obtain ⟨ns, hns⟩ : ∃ ns, ns = (fs1.map (·.name)).filter (orphB l0) := ⟨_, rfl⟩
  have hnm : ∀ n, n ∈ ns ↔ (∃ g ∈ fs1, g.name = n) ∧ isSeg n ∧ n ∉ l.segs.map nameOf := fun n => by
    rw [hns, List.mem_filter, orph_iff, hl0]
    simp only [List.mem_map]
  obtain ⟨fs2, e2, g2, o2⟩ := del_run ns (st := { st with fs := fs1 }) on1 (fun n hn => by
      obtain ⟨⟨g, hg, rfl⟩, _⟩ := (hnm n).1 hn
      simp only
      rw [get_of_mem a1 hg]; rfl) (by rw [hns]; exact List.Pairwise.filter _ (List.pairwise_map.2 a1))
  have e2' : orphF ({ st with fs := fs1 }, l0) = (({ st with fs := fs2 }, l0), 0) := by
    unfold orphF
    simp only
    rw [if_neg (by rw [hon.lit]; decide), ← hns, e2]
  have gF : fsGet fs2 fileN = fsGet st.fs fileN := by
    rw [g2 _ (fun h => not_seg_file ((hnm _).1 h).2.1)]; exact g1 _ (fun e => fresh_ne_file e.symm)
  have gS : ∀ i (hi : i < l.segs.length), fsGet fs2 (nameOf l.segs[i]) = fsGet st.fs (nameOf l.segs[i]) := fun i hi => by
    rw [g2 _ (fun h => ((hnm _).1 h).2.2 (seg_mem hi))]; exact g1 _ (seg_not_fresh hk hi)
  have gL : fsGet fs2 l.name = some f := by
    rw [name_eq h0, gS _ (by omega), ← name_eq h0]; exact hf
  have s2 : Sound fs2 l := ⟨hs.len, fun i hi hi' => by obtain ⟨g, h1, h2⟩ := hs.mid i hi hi'; exact ⟨g, (gS i (by omega)).trans h1, h2⟩, hs.fst, hs.row⟩
  have only2 : ∀ g ∈ fs2, g.name = fileN ∨ g.name ∈ l.segs.map nameOf := fun g hg => by
    obtain ⟨h1, h2⟩ := o2 g hg
    have h3 : g ∈ st.fs ∧ g.name ≠ freshN := by rw [hfs1] at h1; exact mem_del.1 h1
    rcases honly g h3.1 with h | h | h
    · exact .inl h
    · exact absurd h h3.2
    · by_cases hm : g.name ∈ l.segs.map nameOf
      · exact .inr hm
      · exact absurd ((hnm _).2 ⟨⟨g, h1, rfl⟩, h, hm⟩) h2
  have on2 : On { st with fs := fs2 } := hon.put _
  have hlit2 : ({ st with fs := fs2 } : DkSt).dark = false := hon.lit
  have e3 := segs_run (st := { st with fs := fs2 }) hlit2 s2 (l.segs.length - 1) 0 [segF (l.segs.length - 1)] (by omega)
  have e4 := segF_last (st := { st with fs := fs2 }) hlit2 s2 h0 gL hsc
  have hopen : openF l.segs.length = (fun s : DkSt × LgSt => ((((goneF freshN s.1).1, s.2), (goneF freshN s.1).2) : (DkSt × LgSt) × Int)) :: orphF :: (List.range' 0 (l.segs.length - 1)).map segF ++ [segF (l.segs.length - 1)] := by
    unfold openF
    rw [range_last _ h0, List.map_append]; rfl
  have key : ∀ (st' : DkSt), segF (l.segs.length - 1) ({ st with fs := fs2 }, { l with ix := l.ix.take (l.segs.length - 1) }) = ((st', l), 0) → lgOpen st l.cfg = (st', 0, some l) := by
    intro st' h
    have hrun : runL (openF l.segs.length) (st, l0) = ((st', l), 0) := by
      rw [hopen, List.cons_append, List.cons_append, runL_ok e1, runL_ok e2', hl0, e3, Nat.zero_add, runL_ok h]; rfl
    unfold lgOpen
    rw [hln, hk.cfg, if_neg (by decide), if_neg (by simp)]
    simp only [hl0e, hrun]
    rw [if_neg (by simp)]
  by_cases hc : l.lastIx.good < (f.firm ++ f.pend).length
  · rw [if_pos hc] at e4
    have et := trim_on on2 gL (k := l.lastIx.good) (by rw [← List.length_append]; omega)
    rw [et] at e4
    refine ⟨_, key _ e4, ?_, fun i hi => ?_, ?_, fun g hg => ?_⟩
    · rw [get_put_ne (by exact name_not_file hk)]; exact gF
    · rw [get_put_ne]
      · exact gS i (by omega)
      · show l.name ≠ _
        rw [name_eq h0]; exact name_ne hk.may (by omega) (by omega) (by omega)
    · rw [if_pos hc]; exact get_put_eq _ _
    · rcases mem_put.1 hg with rfl | ⟨hg, _⟩
      · exact .inr (name_mem hk)
      · exact only2 g hg
  · rw [if_neg hc] at e4
    refine ⟨fs2, key _ e4, gF, fun i hi => gS i (by omega), ?_, only2⟩
    rw [if_neg hc]; exact gL

/-- Opening a log whose files are just its own: nothing is done. -/
theorem open_still {st : DkSt} {l : LgSt} (hd : st.dark = false) (hk : LgOk l) (ho : LgOn st l) : lgOpen st l.cfg = (st, 0, some l) := by
  have h0 := hk.pos
  have hl := hk.len
  have hln := load_man hd hk.may ho.man
  obtain ⟨l0, hl0⟩ : ∃ l0 : LgSt, l0 = { l with ix := l.ix.take 0 } := ⟨_, rfl⟩
  have hl0e : (⟨l.cfg, l.gen, l.segs, []⟩ : LgSt) = l0 := by rw [hl0]; rfl
  have hg : goneF freshN st = (st, 0) := by
    have : dkDelete st freshN = (st, 5) := by unfold dkDelete; rw [hd, fresh_none hk ho, if_neg (by decide)]
    unfold goneF
    rw [this]; rfl
  have e1 : (fun s : DkSt × LgSt => ((((goneF freshN s.1).1, s.2), (goneF freshN s.1).2) : (DkSt × LgSt) × Int)) (st, l0) = ((st, l0), 0) := by simp only [hg]
  have hns : (st.fs.map (·.name)).filter (orphB l0) = [] := by
    rw [List.filter_eq_nil_iff]
    intro n hn
    rw [orph_iff, hl0]
    obtain ⟨g, hg, rfl⟩ := List.mem_map.1 hn
    rintro ⟨h1, h2⟩
    rcases ho.only g hg with h | h
    · exact not_seg_file (h ▸ h1)
    · exact h2 h
  have e2 : orphF (st, l0) = ((st, l0), 0) := by
    unfold orphF
    simp only
    rw [if_neg (by rw [hd]; decide), hns]; rfl
  have heach : ∀ i (h : i < l.segs.length) (h' : i < l.ix.length), ∃ f, fsGet st.fs (nameOf l.segs[i]) = some f ∧ sgScan (f.firm ++ f.pend) = (0, l.ix[i]) ∧ SgIx.good l.ix[i] = (f.firm ++ f.pend).length := fun i h h' => by
    obtain ⟨f, h1, h2, _⟩ := ho.seg i h h'
    obtain ⟨h3, h4, _⟩ := hk.each i h h'
    have hq : l.ix[i].1 ≤ 1048576 := by
      obtain ⟨a, b, e, _, h5⟩ := may_nat hk.may i h
      rw [e] at h3; simp at h3; omega
    refine ⟨f, h1, by rw [h2]; exact scan_all hq h4, by rw [h2]; rfl⟩
  have hs : Sound st.fs l := ⟨hl, fun i h h' => heach i (by omega) h', fun i h h' => (hk.each i h h').1, hk.row⟩
  obtain ⟨f, hf, hsc, hgd⟩ := heach (l.segs.length - 1) (by omega) (by omega)
  rw [← name_eq h0] at hf
  have hx : l.lastIx = l.ix[l.segs.length - 1]'(by omega) := by rw [lastIx_eq (by omega)]; congr 1; omega
  rw [← hx] at hsc hgd
  have e3 := segs_run hd hs (l.segs.length - 1) 0 [segF (l.segs.length - 1)] (by omega)
  have e4 := segF_last hd hs h0 hf hsc
  rw [if_neg (by omega)] at e4
  have hopen : openF l.segs.length = (fun s : DkSt × LgSt => ((((goneF freshN s.1).1, s.2), (goneF freshN s.1).2) : (DkSt × LgSt) × Int)) :: orphF :: (List.range' 0 (l.segs.length - 1)).map segF ++ [segF (l.segs.length - 1)] := by
    unfold openF
    rw [range_last _ h0, List.map_append]; rfl
  have hrun : runL (openF l.segs.length) (st, l0) = ((st, l), 0) := by
    rw [hopen, List.cons_append, List.cons_append, runL_ok e1, runL_ok e2, hl0, e3, Nat.zero_add, runL_ok e4]; rfl
  unfold lgOpen
  rw [hln, hk.cfg, if_neg (by decide), if_neg (by simp)]
  simp only [hl0e, hrun]
  rw [if_neg (by simp)]
end Go.Proofs.YtcdjckdbcffgdaaGreatDoor

/- SeglogParted, plainly: segments' names in their row, and what stands of them on the disk. -/
namespace Go.Proofs.YtcdjckdbcffgdaaGreatDoor
open Go.RowKit

/-- The number that digits say, behind a number. -/
def vF : Nat → List UInt8 → Nat
  | n, [] => n
  | n, c :: r => vF (n * 10 + (c.toNat - 48)) r
theorem vF_append (a b : List UInt8) : ∀ n, vF n (a ++ b) = vF (vF n a) b := by
  induction a with
  | nil => intro n; rfl
  | cons c r ih => intro n; exact ih _
theorem vF_dec (u : Nat) : vF 0 (Lib.decDigits u) = u := by
  induction u using Nat.strongRecOn with
  | _ u ih =>
    rw [Lib.decDigits]
    split
    · rename_i h
      show 0 * 10 + ((UInt8.ofNat (48 + u)).toNat - 48) = u
      rw [dig_of u h]; omega
    · rename_i h
      rw [vF_append, ih (u / 10) (by omega)]
      show u / 10 * 10 + ((UInt8.ofNat (48 + u % 10)).toNat - 48) = u
      rw [dig_of (u % 10) (by omega)]; omega
theorem vF_zeros (k : Nat) (r : List UInt8) : vF 0 (zeros k ++ r) = vF 0 r := by
  induction k with
  | zero => rfl
  | succ k ih =>
    unfold zeros at ih ⊢
    rw [List.replicate_succ, List.cons_append]
    exact ih
theorem vF_padded (u d : Nat) : vF 0 (padded (u : Int) d) = u := by rw [padded_nat, vF_zeros, vF_dec]
def p10 : Nat → Nat
  | 0 => 1
  | k + 1 => 10 * p10 k
theorem p10_mul (a k : Nat) : a * p10 (k + 1) = (a * 10) * p10 k := by
  show a * (10 * p10 k) = _
  rw [Nat.mul_assoc]
theorem vF_ge : ∀ (l : List UInt8) (n : Nat), n * p10 l.length ≤ vF n l
  | [], n => Nat.le_of_eq (Nat.mul_one n)
  | c :: r, n => by
    have h := vF_ge r (n * 10 + (c.toNat - 48))
    have e : vF n (c :: r) = vF (n * 10 + (c.toNat - 48)) r := rfl
    have h2 : (n * 10) * p10 r.length ≤ (n * 10 + (c.toNat - 48)) * p10 r.length := Nat.mul_le_mul_right _ (Nat.le_add_right _ _)
    rw [e, List.length_cons, p10_mul]
    exact Nat.le_trans h2 h
theorem vF_lt : ∀ (l : List UInt8), (∀ c ∈ l, isDig c) → ∀ n, vF n l < (n + 1) * p10 l.length
  | [], _, n => by
    rw [List.length_nil]
    show n < (n + 1) * 1
    omega
  | c :: r, hd, n => by
    have hc := hd c (by simp)
    unfold isDig at hc
    have h := vF_lt r (fun x hx => hd x (by simp [hx])) (n * 10 + (c.toNat - 48))
    have e : vF n (c :: r) = vF (n * 10 + (c.toNat - 48)) r := rfl
    have h2 : (n * 10 + (c.toNat - 48) + 1) * p10 r.length ≤ ((n + 1) * 10) * p10 r.length := Nat.mul_le_mul_right _ (by omega)
    rw [e, List.length_cons, p10_mul]
    exact Nat.lt_of_lt_of_le h h2
theorem u8_lt {a b : UInt8} (h : a.toNat < b.toNat) : a < b := UInt8.lt_iff_toNat_lt.2 h
theorem lex_digs : ∀ (A B : List UInt8) (n : Nat), A.length = B.length → (∀ c ∈ A, isDig c) → (∀ c ∈ B, isDig c) → vF n A < vF n B → Go.bytesBefore A B = true
  | [], [], n, _, _, _, h => absurd h (Nat.lt_irrefl _)
  | [], _ :: _, _, hl, _, _, _ => by simp at hl
  | _ :: _, [], _, hl, _, _, _ => by simp at hl
  | a :: r, b :: s, n, hl, hA, hB, h => by
    have ha := hA a (by simp)
    have hb := hB b (by simp)
    unfold isDig at ha hb
    have hl' : r.length = s.length := by simpa using hl
    have hA' : ∀ c ∈ r, isDig c := fun x hx => hA x (by simp [hx])
    have hB' : ∀ c ∈ s, isDig c := fun x hx => hB x (by simp [hx])
    have h' : vF (n * 10 + (a.toNat - 48)) r < vF (n * 10 + (b.toNat - 48)) s := h
    show (decide (a < b) || (a == b && Go.bytesBefore r s)) = true
    rcases Nat.lt_trichotomy a.toNat b.toNat with hc | hc | hc
    · rw [decide_eq_true (u8_lt hc)]; rfl
    · have e : a = b := UInt8.toNat_inj.1 hc
      subst e
      rw [lex_digs r s _ hl' hA' hB' h']
      simp
    · exfalso
      have h1 := vF_lt s hB' (n * 10 + (b.toNat - 48))
      have h2 := vF_ge r (n * 10 + (a.toNat - 48))
      rw [hl'] at h2
      have h3 : (n * 10 + (b.toNat - 48) + 1) * p10 s.length ≤ (n * 10 + (a.toNat - 48)) * p10 s.length := Nat.mul_le_mul_right _ (by omega)
      omega
theorem before_same (P A B : List UInt8) (h : Go.bytesBefore A B = true) : Go.bytesBefore (P ++ A) (P ++ B) = true := by
  induction P with
  | nil => exact h
  | cons c r ih =>
    show (decide (c < c) || (c == c && Go.bytesBefore (r ++ A) (r ++ B))) = true
    rw [ih]; simp
theorem segName_before {g f f2 : Nat} (hg : g ≤ 99999999) (h2 : f2 ≤ 1048576) (h : f < f2) : Go.bytesBefore (segName (g : Int) (f : Int)) (segName (g : Int) (f2 : Int)) = true := by
  rw [segName_eq g f hg (by omega), segName_eq g f2 hg h2]
  have e : ∀ x : List UInt8, (115 :: (padded (g : Int) 8 ++ 45 :: x)) = (115 :: (padded (g : Int) 8 ++ [45])) ++ x := fun x => by simp
  rw [e (padded (f : Int) 10), e (padded (f2 : Int) 10)]
  exact before_same _ _ _ (lex_digs _ _ 0 (by rw [padded_len f 9 (by omega), padded_len f2 9 (by omega)]) (padded_digs f 10) (padded_digs f2 10) (by rw [vF_padded, vF_padded]; exact h))
theorem before_asymm : ∀ (a b : List UInt8), Go.bytesBefore a b = true → Go.bytesBefore b a = true → False
  | [], [], h, _ => by cases h
  | [], _ :: _, _, h => by cases h
  | _ :: _, [], h, _ => by cases h
  | a :: r, b :: s, h, h2 => by
    have k : (decide (a < b) || (a == b && Go.bytesBefore r s)) = true := h
    have k2 : (decide (b < a) || (b == a && Go.bytesBefore s r)) = true := h2
    simp only [Bool.or_eq_true, Bool.and_eq_true, decide_eq_true_eq, beq_iff_eq, UInt8.lt_iff_toNat_lt] at k k2
    clear h h2
    rcases k with k | ⟨e, k⟩
    · rcases k2 with k2 | ⟨e2, _⟩
      · omega
      · rw [e2] at k; omega
    · rcases k2 with k2 | ⟨_, k2⟩
      · rw [e] at k2; omega
      · exact before_asymm r s k k2
theorem sorted_eq {α : Type} {R : α → α → Prop} (has : ∀ a b, R a b → R b a → False) : ∀ (l m : List α), l.Pairwise R → m.Pairwise R → (∀ x, x ∈ l ↔ x ∈ m) → l = m
  | [], [], _, _, _ => rfl
  | [], b :: s, _, _, h => by have := (h b).2 (by simp); simp at this
  | a :: r, [], _, _, h => by have := (h a).1 (by simp); simp at this
  | a :: r, b :: s, hl, hm, h => by
    obtain ⟨hl1, hl2⟩ := List.pairwise_cons.1 hl
    obtain ⟨hm1, hm2⟩ := List.pairwise_cons.1 hm
    have hab : a = b := by
      rcases List.mem_cons.1 ((h a).1 (by simp)) with e | e
      · exact e
      · rcases List.mem_cons.1 ((h b).2 (by simp)) with e2 | e2
        · exact e2.symm
        · exact (has a b (hl1 b e2) (hm1 a e)).elim
    subst hab
    have hr : r = s := sorted_eq has r s hl2 hm2 fun x => by
      constructor
      · intro hx
        rcases List.mem_cons.1 ((h x).1 (by simp [hx])) with e | e
        · exact (has x x (e ▸ hl1 x hx) (e ▸ hl1 x hx)).elim
        · exact e
      · intro hx
        rcases List.mem_cons.1 ((h x).2 (by simp [hx])) with e | e
        · exact (has x x (e ▸ hm1 x hx) (e ▸ hm1 x hx)).elim
        · exact e
    rw [hr]

def inB (l : LgSt) (f : FileS) : Bool := (l.segs.map nameOf).contains f.name
theorem inB_iff {l : LgSt} {f : FileS} : inB l f = true ↔ f.name ∈ l.segs.map nameOf := by unfold inB; rw [List.contains_iff_mem]
theorem gen_zero {l : LgSt} (hk : LgOk l) (hg : l.gen = 0) (i : Nat) (hi : i < l.segs.length) : ∃ f : Nat, l.segs[i] = (0, (f : Int)) ∧ f ≤ 1048576 := by
  obtain ⟨a, f, e, h1, h2⟩ := may_nat hk.may i hi
  have hle : l.segs[i].1 ≤ l.gen := by
    have h := (mayB_all hk.may).1
    have := hk.may
    unfold mayB at this
    simp only [Bool.and_eq_true] at this
    have hs := this.1.1.1.1
    clear h this
    have key : ∀ (m : Segs) (last : Int), segsOk l.gen last m = true → ∀ x ∈ m, x.1 ≤ l.gen := by
      intro m
      induction m with
      | nil => intro _ _ x hx; simp at hx
      | cons y r ih =>
        intro last h x hx
        obtain ⟨u, v⟩ := y
        unfold segsOk at h
        simp only [Bool.and_eq_true, decide_eq_true_eq] at h
        rcases List.mem_cons.1 hx with rfl | hx
        · exact h.1.1.1.2
        · exact ih _ h.2 x hx
    exact key _ _ hs _ (List.getElem_mem hi)
  rw [e] at hle
  have : a = 0 := by simp at hle; omega
  subst this
  exact ⟨f, e, h2⟩
theorem segs_sorted {l : LgSt} (hk : LgOk l) (hg : l.gen = 0) : (l.segs.map nameOf).Pairwise (fun a b => Go.bytesBefore a b = true) := by
  rw [List.pairwise_iff_getElem]
  intro i j hi hj hij
  simp only [List.length_map] at hi hj
  rw [List.getElem_map, List.getElem_map]
  obtain ⟨f, e1, h1⟩ := gen_zero hk hg i hi
  obtain ⟨f2, e2, h2⟩ := gen_zero hk hg j hj
  have hr := may_rise hk.may hj hij
  rw [e1, e2] at hr
  rw [e1, e2]
  simp only at hr
  exact segName_before (g := 0) (by omega) h2 (by omega)
theorem names_row {st : DkSt} {l : LgSt} (hk : LgOk l) (ho : LgOn st l) (hs : FsOk st.fs) (hg : l.gen = 0) : (st.fs.filter (inB l)).map (·.name) = l.segs.map nameOf := by
  refine sorted_eq (R := fun a b => Go.bytesBefore a b = true) before_asymm _ _ ?_ (segs_sorted hk hg) fun x => ?_
  · rw [List.pairwise_map]
    exact (hs.sorted.filter _)
  · constructor
    · intro hx
      obtain ⟨f, hf, rfl⟩ := List.mem_map.1 hx
      exact inB_iff.1 (List.mem_filter.1 hf).2
    · intro hx
      obtain ⟨y, hy, rfl⟩ := List.mem_map.1 hx
      obtain ⟨i, hi, rfl⟩ := List.getElem_of_mem hy
      obtain ⟨f, hf, _⟩ := ho.seg i hi (by rw [hk.len]; exact hi)
      have hm := List.mem_of_find?_eq_some hf
      have hn : f.name = nameOf l.segs[i] := by simpa using List.find?_some hf
      exact List.mem_map.2 ⟨f, List.mem_filter.2 ⟨hm, inB_iff.2 (by rw [hn]; exact hx)⟩, hn⟩

/-- How many of the first files are the log's. -/
def ptAt (l : LgSt) (fs : Fs) (i : Nat) : Nat := ((fs.take i).filter (inB l)).length
theorem pt_out {l : LgSt} {fs : Fs} {i : Nat} (hi : i < fs.length) (h : inB l fs[i] = false) : ptAt l fs (i + 1) = ptAt l fs i := by
  unfold ptAt
  rw [List.take_succ_eq_append_getElem hi, List.filter_append, List.filter_cons, h]; simp
theorem pt_in {st : DkSt} {l : LgSt} (hk : LgOk l) (ho : LgOn st l) (hs : FsOk st.fs) (hg : l.gen = 0) {i : Nat} (hi : i < st.fs.length) (h : inB l st.fs[i] = true) :
    ptAt l st.fs (i + 1) = ptAt l st.fs i + 1 ∧ ∃ hlt : ptAt l st.fs i < l.segs.length, nameOf l.segs[ptAt l st.fs i] = st.fs[i].name := by
  refine ⟨?_, ?_⟩
  · unfold ptAt
    rw [List.take_succ_eq_append_getElem hi, List.filter_append, List.filter_cons, h]; simp
  · have e := names_row hk ho hs hg
    have e2 : st.fs = st.fs.take i ++ st.fs[i] :: st.fs.drop (i + 1) := by rw [← List.drop_eq_getElem_cons hi, List.take_append_drop]
    have e3 : l.segs.map nameOf = ((st.fs.take i).filter (inB l)).map (·.name) ++ st.fs[i].name :: ((st.fs.drop (i + 1)).filter (inB l)).map (·.name) := by
      have e4 : st.fs.filter (inB l) = (st.fs.take i).filter (inB l) ++ st.fs[i] :: (st.fs.drop (i + 1)).filter (inB l) := by
        conv => lhs; rw [e2]
        rw [List.filter_append, List.filter_cons, h, if_pos rfl]
      rw [← e, e4, List.map_append, List.map_cons]
    have hl : (l.segs.map nameOf).length = ptAt l st.fs i + (1 + (((st.fs.drop (i + 1)).filter (inB l)).map (·.name)).length) := by
      rw [e3]; unfold ptAt; simp; omega
    have hlt : ptAt l st.fs i < l.segs.length := by rw [List.length_map] at hl; omega
    refine ⟨hlt, ?_⟩
    have h9 : (l.segs.map nameOf)[ptAt l st.fs i]? = some st.fs[i].name := by
      rw [e3, List.getElem?_append_right (by unfold ptAt; simp)]
      unfold ptAt; simp
    rw [List.getElem?_map, List.getElem?_eq_getElem hlt] at h9
    simpa using h9
theorem pt_end {st : DkSt} {l : LgSt} (hk : LgOk l) (ho : LgOn st l) (hs : FsOk st.fs) (hg : l.gen = 0) : ptAt l st.fs st.fs.length = l.segs.length := by
  have e := congrArg List.length (names_row hk ho hs hg)
  rw [List.length_map, List.length_map] at e
  unfold ptAt
  rw [List.take_length]; exact e
theorem pt_seg {st : DkSt} {l : LgSt} (hk : LgOk l) (ho : LgOn st l) {f : FileS} (hf : f ∈ st.fs) : isSeg f.name ↔ inB l f = true := by
  rw [inB_iff]
  constructor
  · intro h
    rcases ho.only f hf with e | e
    · rw [e] at h; exact absurd h not_seg_file
    · exact e
  · intro h
    obtain ⟨x, hx, e⟩ := List.mem_map.1 h
    obtain ⟨i, hi, rfl⟩ := List.getElem_of_mem hx
    obtain ⟨a, b, e2, h1, h2⟩ := may_nat hk.may i hi
    exact ⟨a, b, h1, h2, by rw [← e, e2]; rfl⟩
/-- What stands of a segment. -/
structure PtFile (l : LgSt) (k : Nat) (f : FileS) (x : SgIx) : Prop where
  all : f.firm ++ f.pend = segBytes x.1 x.2
  fr : frOk x.1 x.2
  low : x.1 ≤ 1048576
  part : x.2.length ≤ 1 ∨ ((segBytes x.1 x.2).length : Int) ≤ l.cfg.ss
  mid : k + 1 < l.segs.length → f.pend = [] ∧ x.2 ≠ []
theorem pt_file {st : DkSt} {l : LgSt} (hk : LgOk l) (ho : LgOn st l) (hp : LgPart l) (ha : Apart st.fs) {i k : Nat} (hi : i < st.fs.length) (hlt : k < l.segs.length) (hn : nameOf l.segs[k] = st.fs[i].name) : ∃ x, PtFile l k st.fs[i] x := by
  have hl := hk.len
  obtain ⟨f, hf, h1, h2, h3⟩ := ho.seg k hlt (by omega)
  rw [hn, get_of_mem ha (List.getElem_mem hi)] at hf
  cases hf
  obtain ⟨e1, e2, e3⟩ := hk.each k hlt (by omega)
  obtain ⟨a, b, e, h4, h5⟩ := may_nat hk.may k hlt
  refine ⟨l.ix[k]'(by omega), h1, e2, by rw [e] at e1; simp at e1; omega, hp.size k (by omega), fun h => ⟨h3 h, hp.some_ k (by omega)⟩⟩

theorem end_frames {s : List UInt8} : ∀ (xs : List FrX) {a q : Nat}, frChain s a q xs → frEnd a xs = a + (frames q (payl xs)).length
  | [], a, q, _ => rfl
  | x :: r, a, q, h => by
    obtain ⟨h1, h2, h3, h4⟩ := h
    have e := end_frames r h4
    show frEnd x.next r = a + (frBytes q x.p.data.toList ++ frames (q + 1) (payl r)).length
    rw [e, List.length_append, frBytes_length, size_toList]
    unfold FrX.next
    omega
/-- A scan of a segment's bytes finds all of it. -/
theorem pt_scan {s : List UInt8} {x : SgIx} (h : s = segBytes x.1 x.2) (hf : frOk x.1 x.2) (hq : x.1 ≤ 1048576) : segFirst s = (0, x.1) ∧ ∀ xs, FsDone s 16 x.1 xs → frEnd 16 xs = s.length ∧ xs.length = x.2.length := by
  have h1 : segFirst s = (0, x.1) := by rw [h]; unfold segBytes; exact first_head hq _
  refine ⟨h1, fun xs hd => ?_⟩
  have h2 := scan_all hq hf
  rw [← h] at h2
  unfold sgScan at h2
  rw [h1, if_neg (by simp)] at h2
  have h3 : scanF s.length x.1 (s.drop 16) = x.2 := by simpa using congrArg (fun r : Int × SgIx => r.2.2) h2
  have hl16 : 16 ≤ s.length := by rw [h, segBytes_length]; omega
  have hle := chain_le hd.1 hl16
  have h4 := chain_scan (n := s.length) hd.1 hd.2 (by omega)
  have h5 : payl xs = x.2 := h4.symm.trans h3
  refine ⟨?_, ?_⟩
  · rw [end_frames xs hd.1, h5, h, segBytes_length]
  · rw [← h5]; unfold payl; simp
end Go.Proofs.YtcdjckdbcffgdaaGreatDoor

/- SeglogNames, plainly: opening a log, by a function that can be computed; the examples. -/
namespace Go.Proofs.YtcdjckdbcffgdaaGreatDoor

/-- Is it a segment's file's name? -/
def segB (n : List UInt8) : Bool := decide (vF 0 ((n.drop 1).take 8) ≤ 99999999) && decide (vF 0 (n.drop 10) ≤ 1048576) && (segName ((vF 0 ((n.drop 1).take 8) : Nat) : Int) ((vF 0 (n.drop 10) : Nat) : Int) == n)
theorem segB_iff (n : List UInt8) : isSeg n ↔ segB n = true := by
  unfold segB
  rw [Bool.and_eq_true, Bool.and_eq_true, decide_eq_true_iff, decide_eq_true_iff, beq_iff_eq]
  constructor
  · rintro ⟨g, f, hg, hf, rfl⟩
    have e1 : ((segName (g : Int) (f : Int)).drop 1).take 8 = padded (g : Int) 8 := by
      rw [segName_eq g f hg hf]
      exact List.take_left' (padded_len g 7 (by omega))
    have e2 : (segName (g : Int) (f : Int)).drop 10 = padded (f : Int) 10 := by
      rw [segName_eq g f hg hf]
      have h : (padded (g : Int) 8).length = 8 := padded_len g 7 (by omega)
      show (padded (g : Int) 8 ++ 45 :: padded (f : Int) 10).drop 9 = _
      rw [List.drop_append, List.drop_eq_nil_of_le (by omega), h]
      rfl
    rw [e1, e2, vF_padded, vF_padded]
    exact ⟨⟨hg, hf⟩, rfl⟩
  · rintro ⟨⟨h1, h2⟩, h3⟩
    exact ⟨_, _, h1, h2, h3.symm⟩
def orphBC (l : LgSt) (n : List UInt8) : Bool := segB n && !(l.segs.map nameOf).contains n
theorem orphB_eq (l : LgSt) : orphB l = orphBC l := by
  funext n
  unfold orphB orphBC
  congr 1
  cases h : segB n
  · exact @decide_eq_false _ (Classical.propDecidable _) (fun e => by rw [(segB_iff n).1 e] at h; cases h)
  · exact @decide_eq_true _ (Classical.propDecidable _) ((segB_iff n).2 h)
def orphFC (s : DkSt × LgSt) : (DkSt × LgSt) × Int :=
  if s.1.dark then (s, 45) else let r := runL (((s.1.fs.map (·.name)).filter (orphBC s.2)).map fun n st => dkDelete st n) s.1; ((r.1, s.2), r.2)
theorem orphF_eq : orphF = orphFC := by
  funext s
  unfold orphF orphFC
  rw [orphB_eq]
def openFC (n : Nat) : List (DkSt × LgSt → (DkSt × LgSt) × Int) :=
  (fun s => ((((goneF freshN s.1).1, s.2), (goneF freshN s.1).2) : (DkSt × LgSt) × Int)) :: orphFC :: (List.range n).map segF
theorem openF_eq (n : Nat) : openF n = openFC n := by unfold openF openFC; rw [orphF_eq]
def lgOpenC (st : DkSt) (c : Cfg) : DkSt × Int × Option LgSt :=
  if cfgOk c = false then (st, 1, none)
  else if (loadF st).2.2 ≠ 0 then (st, (loadF st).2.2, none)
  else if (runL (openFC (loadF st).2.1.length) (st, (⟨c, (loadF st).1, (loadF st).2.1, []⟩ : LgSt))).2 ≠ 0 then
    ((runL (openFC (loadF st).2.1.length) (st, (⟨c, (loadF st).1, (loadF st).2.1, []⟩ : LgSt))).1.1, (runL (openFC (loadF st).2.1.length) (st, (⟨c, (loadF st).1, (loadF st).2.1, []⟩ : LgSt))).2, none)
  else ((runL (openFC (loadF st).2.1.length) (st, (⟨c, (loadF st).1, (loadF st).2.1, []⟩ : LgSt))).1.1, 0, some (runL (openFC (loadF st).2.1.length) (st, (⟨c, (loadF st).1, (loadF st).2.1, []⟩ : LgSt))).1.2)
theorem lgOpen_eq (st : DkSt) (c : Cfg) : lgOpen st c = lgOpenC st c := by unfold lgOpen lgOpenC; rw [openF_eq]

def lgSame (a b : LgSt) : Bool := decide (a.cfg.ss = b.cfg.ss) && decide (a.cfg.ev = b.cfg.ev) && decide (a.cfg.v = b.cfg.v) && decide (a.gen = b.gen) && decide (a.segs = b.segs) && decide (a.ix = b.ix)
theorem lgSame_eq {a b : LgSt} (h : lgSame a b = true) : a = b := by
  obtain ⟨⟨a1, a2, a3⟩, a4, a5, a6⟩ := a
  obtain ⟨⟨b1, b2, b3⟩, b4, b5, b6⟩ := b
  unfold lgSame at h
  simp only [Bool.and_eq_true, decide_eq_true_eq] at h
  obtain ⟨⟨⟨⟨⟨rfl, rfl⟩, rfl⟩, rfl⟩, rfl⟩, rfl⟩ := h
  rfl
def lgIs (o : Option LgSt) (b : LgSt) : Bool := match o with | none => false | some a => lgSame a b
theorem some_key {o : Option LgSt} {b : LgSt} (h : lgIs o b = true) : o = some b := by
  cases o with
  | none => cases h
  | some a => rw [lgSame_eq h]

abbrev nmN : List UInt8 := [115, 48, 48, 48, 48, 48, 48, 48, 57, 45, 48, 48, 48, 48, 48, 48, 48, 48, 48, 49]
abbrev nmS : List UInt8 := [110, 48, 48, 48, 48, 48, 48, 48, 48, 48, 49]
abbrev nmL : List UInt8 := [115, 48, 48, 48, 48, 48, 48, 48, 48, 45, 48, 48, 48, 48, 48, 48, 48, 48, 48, 55]
def nmA0 : DkSt := ⟨[], 2000, -1, false⟩
def nmA1 : DkSt := ⟨newFs 7, 2000, -1, false⟩
def nmR1 : (DkSt × LgSt) × Int := lgAppend nmA1 (newL exCfg 7) (List.replicate 100 120)
def nmB1 : DkSt × Int := dkCreate nmR1.1.1 nmN
def nmB2 : DkSt × Int := dkCreate nmB1.1 nmS
def nmB3 : DkSt × Int := dkCreate nmB2.1 freshN
def nmB4 : DkSt × Int := dkAppend nmB3.1 nmL [116, 111, 114, 110]
def nmO : DkSt × Int × Option LgSt := lgOpenC nmB4.1 exCfg
def nmR2 : (DkSt × LgSt) × Int := lgAppend nmO.1 nmR1.1.2 [115, 101, 99, 111, 110, 100]
def nmS1 : DkSt × Int := lgSync nmR2.1.1 nmR2.1.2
def nmW : DkSt × Int := dkTrim nmS1.1 nmL 60
def nmU : DkSt × Int := dkDelete nmS1.1 nmL
def nmV : DkSt × Int := dkTrim nmS1.1 nmL 16
def nmE0 : DkSt := ⟨[], 4000, -1, false⟩
def nmE1 : DkSt := ⟨newFs 1048575, 4000, -1, false⟩
def nmR3 : (DkSt × LgSt) × Int := lgAppend nmE1 (newL exCfg 1048575) [120]
def named (st : DkSt) : Bool := st.fs.all fun f => decide (1 ≤ f.name.length)
theorem named_all {st : DkSt} (h : named st = true) : ∀ f ∈ st.fs, 1 ≤ f.name.length := fun f hf => of_decide_eq_true (List.all_eq_true.1 h f hf)

set_option maxRecDepth 100000 in
theorem nm_open0 : lgOpen nmA0 exCfg = (nmA0, 5, none) := by
  have h : (loadF nmA0).2.2 = 5 := by decide +kernel
  unfold lgOpen
  rw [if_neg (by decide), h, if_pos (by decide)]
theorem init_eq {cap : Int} {q : Nat} (hq : q ≤ 1048576) (h0 : (runL (initF ⟨[], cap, -1, false⟩ q) ⟨[], cap, -1, false⟩).2 = 0) : lgInit ⟨[], cap, -1, false⟩ (q : Int) exCfg = (⟨newFs q, cap, -1, false⟩, 0, some (newL exCfg q)) := by
  have hc : cfgOk exCfg = true := by decide
  rcases init_on (st := ⟨[], cap, -1, false⟩) ⟨rfl, rfl⟩ rfl hc hq with h | h
  · exact h
  · exfalso
    unfold lgInit at h
    rw [if_neg (by rw [hc]; unfold numberB; simp; omega), if_neg (by simp), if_neg (by simp [fsGet]), Int.toNat_natCast, if_neg (by rw [h0]; simp)] at h
    simp at h
set_option maxRecDepth 100000 in
theorem nm_init : lgInit nmA0 7 exCfg = (nmA1, 0, some (newL exCfg 7)) := init_eq (cap := 2000) (q := 7) (by decide) (by decide +kernel)
set_option maxRecDepth 100000 in
theorem nm_init3 : lgInit nmE0 1048575 exCfg = (nmE1, 0, some (newL exCfg 1048575)) := init_eq (cap := 4000) (q := 1048575) (by decide) (by decide +kernel)
set_option maxRecDepth 100000 in
theorem nm_file : (fsGet nmA1.fs fileN).isSome = true := by decide +kernel
set_option maxRecDepth 100000 in
theorem nm_one : nmR1.2 = 0 ∧ nmR1.1.2.next = 8 ∧ nmR1.1.2.first = 7 ∧ nmB1.2 = 0 ∧ nmB2.2 = 0 ∧ nmB3.2 = 0 ∧ nmB4.2 = 0 ∧ named nmB4.1 = true := by decide +kernel
set_option maxRecDepth 100000 in
theorem nm_two : nmO.2.1 = 0 ∧ lgIs nmO.2.2 nmR1.1.2 = true ∧ nmO.1.fs.map (·.name) = [fileN, nmS, nmL] ∧ nmO.1.fs.map (fun f => f.firm.length + f.pend.length) = [34, 0, 132] := by decide +kernel
set_option maxRecDepth 100000 in
theorem nm_open2 : lgOpen nmB4.1 exCfg = (nmO.1, 0, some nmR1.1.2) := by
  have h := nm_two
  have e : nmO.2.2 = some nmR1.1.2 := some_key h.2.1
  rw [lgOpen_eq]
  show nmO = _
  rw [← e, ← h.1]
set_option maxRecDepth 100000 in
theorem nm_three : nmR2.2 = 0 ∧ nmS1.2 = 0 ∧ nmW.2 = 0 ∧ nmU.2 = 0 ∧ nmV.2 = 0 ∧ named nmW.1 = true ∧ named nmU.1 = true ∧ named nmV.1 = true := by decide +kernel
set_option maxRecDepth 100000 in
theorem nm_wrong : (lgOpenC nmW.1 exCfg).2.1 = 42 ∧ (lgOpenC nmW.1 exCfg).2.2.isNone = true ∧ (lgOpenC nmU.1 exCfg).2.1 = 4 ∧ (lgOpenC nmU.1 exCfg).2.2.isNone = true ∧ (lgOpenC nmV.1 exCfg).2.1 = 4 ∧ (lgOpenC nmV.1 exCfg).2.2.isNone = true := by decide +kernel
set_option maxRecDepth 100000 in
theorem nm_end : nmR3.2 = 0 ∧ nmR3.1.2.next = 1048576 := by decide +kernel
theorem app_empty (st : DkSt) (l : LgSt) : lgAppend st l [] = ((st, l), 4) := by unfold lgAppend; rw [if_pos rfl]
theorem app_long (st : DkSt) (l : LgSt) {p : List UInt8} (h : 4096 < p.length) : lgAppend st l p = ((st, l), 40) := by
  unfold lgAppend; rw [if_neg (fun e => by rw [e] at h; simp at h), if_pos (.inl h)]
theorem app_top (st : DkSt) (l : LgSt) {p : List UInt8} (hp : p ≠ []) (h : 1048576 ≤ l.next) : lgAppend st l p = ((st, l), 40) := by
  unfold lgAppend; rw [if_neg hp, if_pos (.inr h)]
end Go.Proofs.YtcdjckdbcffgdaaGreatDoor
