/- seglog, plainly: what opening a log finds, and what it leaves. -/
import Derived.Test.YtcdjckdbcffgdaaGreatDoorMAo
import Derived.Test.YtcdjckdbcffgdaaGreatDoorMDd
namespace Go.Proofs.YtcdjckdbcffgdaaGreatDoor

/-- What Open does, and tells. -/
noncomputable def lgOpen (st : DkSt) (c : Cfg) : DkSt × Int × Option LgSt :=
  if cfgOk c = false then (st, 1, none)
  else if (loadF st).2.2 ≠ 0 then (st, (loadF st).2.2, none)
  else if (runL (openF (loadF st).2.1.length) (st, (⟨c, (loadF st).1, (loadF st).2.1, []⟩ : LgSt))).2 ≠ 0 then
    ((runL (openF (loadF st).2.1.length) (st, (⟨c, (loadF st).1, (loadF st).2.1, []⟩ : LgSt))).1.1, (runL (openF (loadF st).2.1.length) (st, (⟨c, (loadF st).1, (loadF st).2.1, []⟩ : LgSt))).2, none)
  else ((runL (openF (loadF st).2.1.length) (st, (⟨c, (loadF st).1, (loadF st).2.1, []⟩ : LgSt))).1.1, 0, some (runL (openF (loadF st).2.1.length) (st, (⟨c, (loadF st).1, (loadF st).2.1, []⟩ : LgSt))).1.2)

theorem load_man {st : DkSt} {g : Int} {m : Segs} (hd : st.dark = false) (hm : mayB g m = true) (h : fsGet st.fs fileN = some ⟨fileN, Crc.seal_ (manBytes g m), []⟩) : loadF st = (g, m, 0) := by
  have e1 : dkRead st fileN = (Crc.seal_ (manBytes g m), 0) := by unfold dkRead; rw [hd, h]; simp
  obtain ⟨h4, h5⟩ := sealed_seal (manBytes g m)
  have e2 : (Crc.seal_ (manBytes g m)).take ((Crc.seal_ (manBytes g m)).length - 4) = manBytes g m := by
    rw [Crc.seal_length, show (manBytes g m).length + 4 - 4 = (manBytes g m).length from by omega]
    unfold Crc.seal_
    exact List.take_left' rfl
  unfold loadF
  rw [e1, if_neg (by simp)]
  unfold readF
  simp only
  rw [if_neg (by omega), if_pos h5, e2, parse_make hm]

/-! ### What a scan finds -/
theorem scan_all {q : Nat} {ps : List (List UInt8)} (hq : q ≤ 1048576) (h : frOk q ps) : sgScan (segBytes q ps) = (0, (q, ps)) := by
  unfold sgScan segBytes
  rw [first_head hq, if_neg (by simp), List.drop_left' (segHead_length q)]
  have hl : ps.length ≤ (segHead q ++ frames q ps).length := by rw [List.length_append]; have := frames_length_le (q := q) (a := ps); omega
  have e := scan_frames (n := (segHead q ++ frames q ps).length) (tail := []) h hl
  rw [List.append_nil] at e
  rw [e, scan_stop (by rw [frRead_nil]; simp), List.append_nil]
theorem frames_take_le (q : Nat) (ps : List (List UInt8)) (j : Nat) : ∃ t, frames q ps = frames q (ps.take j) ++ t := by
  refine ⟨frames (q + (ps.take j).length) (ps.drop j), ?_⟩
  rw [← frames_append, List.take_append_drop]
theorem frames_mono (q : Nat) (ps : List (List UInt8)) {i j : Nat} (h : i ≤ j) : (frames q (ps.take i)).length ≤ (frames q (ps.take j)).length := by
  obtain ⟨t, ht⟩ := frames_take_le q (ps.take j) i
  rw [List.take_take, Nat.min_eq_left h] at ht
  rw [ht, List.length_append]; omega
theorem scan_more {d : Nat} : ∀ {n q : Nat} {t : List UInt8}, t.length ≤ n → scanF (n + d) q t = scanF n q t := by
  intro n
  induction n with
  | zero =>
    intro q t h
    rw [List.eq_nil_of_length_eq_zero (by omega : t.length = 0), scan_stop (by rw [frRead_nil]; simp), scan_stop (by rw [frRead_nil]; simp)]
  | succ n ih =>
    intro q t h
    rw [show n + 1 + d = (n + d) + 1 from by omega, scanF, scanF]
    split
    · rw [ih (by rw [List.length_drop]; omega)]
    · rfl
/-- Of a beginning of a segment's bytes: the frames that are there whole. -/
theorem scan_part {q : Nat} {ps : List (List UInt8)} (hq : q ≤ 1048576) (h : frOk q ps) {k : Nat} (h16 : 16 ≤ k) (hk : k ≤ (segBytes q ps).length) :
    ∃ j, j ≤ ps.length ∧ sgScan ((segBytes q ps).take k) = (0, (q, ps.take j)) ∧ SgIx.good (q, ps.take j) ≤ k ∧ ((segBytes q ps).take k).take (SgIx.good (q, ps.take j)) = segBytes q (ps.take j) ∧
      (∀ i, i ≤ ps.length → (segBytes q (ps.take i)).length ≤ k → i ≤ j) := by
  have e0 : (segBytes q ps).take k = segHead q ++ (frames q ps).take (k - 16) := by
    unfold segBytes
    rw [List.take_append, segHead_length, List.take_of_length_le (by rw [segHead_length]; omega)]
  have hlk : ((segBytes q ps).take k).length = k := by rw [List.length_take]; omega
  obtain ⟨j, hj, e1, hmax⟩ := scan_cut (n := k + ps.length) (k := k - 16) h (by omega)
  rw [scan_more (by rw [List.length_take]; omega)] at e1
  have hsc : sgScan ((segBytes q ps).take k) = (0, (q, ps.take j)) := by
    unfold sgScan
    rw [hlk, e0, first_head hq, if_neg (by simp), List.drop_left' (segHead_length q), e1]
  have hj2 : (frames q (ps.take j)).length ≤ k - 16 := by
    obtain ⟨_, tail, ht⟩ := scan_back (n := k) (q := q) (t := (frames q ps).take (k - 16))
    rw [e1] at ht
    have h2 := congrArg List.length ht
    rw [List.length_append, List.length_take] at h2
    omega
  obtain ⟨t, ht⟩ := frames_take_le q ps j
  have hg : SgIx.good (q, ps.take j) = 16 + (frames q (ps.take j)).length := by unfold SgIx.good; rw [segBytes_length]
  refine ⟨j, hj, hsc, by omega, ?_, fun i hi hl => hmax i hi (by rw [segBytes_length] at hl; omega)⟩
  rw [List.take_take, Nat.min_eq_left (by omega)]
  have e : segBytes q ps = segBytes q (ps.take j) ++ t := by unfold segBytes; rw [ht, List.append_assoc]
  rw [e]
  exact List.take_left' rfl

/-! ### Opening -/
/-- What is deleted, each thing there. -/
theorem del_run : ∀ (ns : List (List UInt8)) {st : DkSt}, On st → (∀ n ∈ ns, (fsGet st.fs n).isSome = true) → ns.Pairwise (· ≠ ·) →
    ∃ fs', runL (ns.map fun n st => dkDelete st n) st = ({ st with fs := fs' }, 0) ∧ (∀ m, m ∉ ns → fsGet fs' m = fsGet st.fs m) ∧ (∀ f ∈ fs', f ∈ st.fs ∧ f.name ∉ ns)
  | [], st, _, _, _ => ⟨st.fs, rfl, fun _ _ => rfl, fun f hf => ⟨hf, by simp⟩⟩
  | n :: r, st, hon, hin, hne => by
    obtain ⟨h1, h2⟩ := List.pairwise_cons.1 hne
    obtain ⟨f, hf⟩ := Option.isSome_iff_exists.1 (hin n (by simp))
    have e := delete_on hon hf
    obtain ⟨fs', e2, h3, h4⟩ := del_run r (st := { st with fs := fsDel st.fs n }) (hon.put _) (fun m hm => by simp only; rw [get_del_ne (h1 m hm)]; exact hin m (by simp [hm])) h2
    refine ⟨fs', ?_, fun m hm => ?_, fun g hg => ?_⟩
    · rw [List.map_cons, runL_ok e, e2]
    · rw [h3 m (by simp at hm; exact hm.2)]
      exact get_del_ne (fun e => hm (by rw [e]; simp)) _
    · obtain ⟨h5, h6⟩ := h4 g hg
      obtain ⟨h7, h8⟩ := mem_del.1 h5
      exact ⟨h7, by simp; exact ⟨h8, h6⟩⟩

/-- The files of a log's segments hold these, scanned so. -/
structure Sound (fs : Fs) (l : LgSt) : Prop where
  len : l.ix.length = l.segs.length
  mid : ∀ i (h : i + 1 < l.segs.length) (h' : i < l.ix.length), ∃ f, fsGet fs (nameOf l.segs[i]) = some f ∧ sgScan (f.firm ++ f.pend) = (0, l.ix[i]) ∧ SgIx.good l.ix[i] = (f.firm ++ f.pend).length
  fst : ∀ i (h : i < l.segs.length) (h' : i < l.ix.length), l.segs[i].2 = (l.ix[i].1 : Int)
  row : ∀ i (h : i + 1 < l.ix.length), l.ix[i + 1].1 = SgIx.next l.ix[i]

theorem segF_mid {st : DkSt} {l : LgSt} (hd : st.dark = false) (h : Sound st.fs l) (i : Nat) (hi : i + 1 < l.segs.length) : segF i (st, { l with ix := l.ix.take i }) = ((st, { l with ix := l.ix.take (i + 1) }), 0) := by
  have hl := h.len
  have hi' : i < l.ix.length := by omega
  obtain ⟨f, hf, hs, hg⟩ := h.mid i hi hi'
  have hF := h.fst i (by omega) hi'
  have hF2 := h.fst (i + 1) (by omega) (by omega)
  have hR := h.row i (by omega)
  have e1 : l.segs.getD i (0, 0) = l.segs[i] := by rw [List.getD_eq_getElem?_getD, List.getElem?_eq_getElem (by omega)]; rfl
  have e2 : l.segs.getD (i + 1) (0, 0) = l.segs[i + 1] := by rw [List.getD_eq_getElem?_getD, List.getElem?_eq_getElem (by omega)]; rfl
  have e3 : dkRead st (nameOf l.segs[i]) = (f.firm ++ f.pend, 0) := by unfold dkRead; rw [hd, hf]; simp
  have e4 : l.ix.take i ++ [l.ix[i]] = l.ix.take (i + 1) := (List.take_succ_eq_append_getElem hi').symm
  unfold segF
  simp only [e1, e2, e3, hs, e4, hg]
  rw [if_neg (by simp), if_neg (by simp), if_neg (by rw [hF]; simp), if_neg (by omega), if_neg (by omega), if_neg (by rw [hF2, hR]; simp)]
theorem segs_run {st : DkSt} {l : LgSt} (hd : st.dark = false) (h : Sound st.fs l) : ∀ (k i : Nat) (rest : List (DkSt × LgSt → (DkSt × LgSt) × Int)), i + k + 1 ≤ l.segs.length →
    runL ((List.range' i k).map segF ++ rest) (st, { l with ix := l.ix.take i }) = runL rest (st, { l with ix := l.ix.take (i + k) })
  | 0, i, rest, _ => rfl
  | k + 1, i, rest, hk => by
    rw [List.range'_succ, List.map_cons, List.cons_append, runL_ok (segF_mid hd h i (by omega)), segs_run hd h k (i + 1) rest (by omega), show i + 1 + k = i + (k + 1) from by omega]
/-- The last segment: what is there whole; the rest is trimmed. -/
theorem segF_last {st : DkSt} {l : LgSt} (hd : st.dark = false) (h : Sound st.fs l) (h0 : 0 < l.segs.length) {f : FileS} (hf : fsGet st.fs l.name = some f) (hs : sgScan (f.firm ++ f.pend) = (0, l.lastIx)) :
    segF (l.segs.length - 1) (st, { l with ix := l.ix.take (l.segs.length - 1) }) = if l.lastIx.good < (f.firm ++ f.pend).length then (((dkTrim st l.name l.lastIx.good).1, l), (dkTrim st l.name l.lastIx.good).2) else ((st, l), 0) := by
  have hl := h.len
  have hF := h.fst (l.segs.length - 1) (by omega) (by omega)
  have hn := name_eq h0
  have hx : l.lastIx = l.ix[l.segs.length - 1]'(by omega) := by rw [lastIx_eq (by omega)]; congr 1; omega
  have e1 : l.segs.getD (l.segs.length - 1) (0, 0) = l.segs[l.segs.length - 1]'(by omega) := by rw [List.getD_eq_getElem?_getD, List.getElem?_eq_getElem (by omega)]; rfl
  have e3 : dkRead st (nameOf (l.segs[l.segs.length - 1]'(by omega))) = (f.firm ++ f.pend, 0) := by unfold dkRead; rw [hd, ← hn, hf]; simp
  have e4 : l.ix.take (l.segs.length - 1) ++ [l.lastIx] = l.ix := by
    rw [hx, ← List.take_succ_eq_append_getElem (by omega), List.take_of_length_le (by omega)]
  unfold segF
  rw [← hn] at e3
  simp only [e1, ← hn, e3, hs, e4]
  rw [if_neg (by simp), if_neg (by simp), if_neg (by rw [hF, hx]; simp), if_pos (by omega)]
theorem range_last (n : Nat) (h : 0 < n) : List.range n = List.range' 0 (n - 1) ++ [n - 1] := by
  rw [List.range_eq_range']
  have := List.range'_concat (s := 0) (n := n - 1) (step := 1)
  rw [show n - 1 + 1 = n from by omega] at this
  simpa using this

theorem not_seg_file : ¬ isSeg fileN := by rintro ⟨g, f, h1, h2, e⟩; exact segName_not_M h1 h2 _ e.symm
theorem not_seg_fresh : ¬ isSeg freshN := by rintro ⟨g, f, h1, h2, e⟩; exact segName_not_M h1 h2 _ e.symm
theorem orph_iff {l : LgSt} {n : List UInt8} : orphB l n = true ↔ isSeg n ∧ n ∉ l.segs.map nameOf := by
  unfold orphB
  simp only [Bool.and_eq_true, decide_eq_true_eq, Bool.not_eq_true', List.contains_eq_mem, decide_eq_false_iff_not]
theorem seg_mem {l : LgSt} {i : Nat} (hi : i < l.segs.length) : nameOf l.segs[i] ∈ l.segs.map nameOf := List.mem_map_of_mem (List.getElem_mem hi)
theorem name_mem' {l : LgSt} (h0 : 0 < l.segs.length) : l.name ∈ l.segs.map nameOf := by rw [name_eq h0]; exact seg_mem _
theorem trim_on {st : DkSt} (h : On st) {n : List UInt8} {k : Nat} {f : FileS} (hg : fsGet st.fs n = some f) (hk : k ≤ f.firm.length + f.pend.length) : dkTrim st n k = ({ st with fs := fsPut st.fs ⟨n, (f.firm ++ f.pend).take k, []⟩ }, 0) :=
  (show dkTrim st n k = doing st (fsPut st.fs ⟨n, (f.firm ++ f.pend).take k, []⟩) from by unfold dkTrim; rw [h.lit, hg, if_neg (by decide)]; simp only; rw [if_neg (by omega)]).trans (doing_on h _)
theorem del_absent {fs : Fs} {n : List UInt8} (h : fsGet fs n = none) : fsDel fs n = fs := del_none h
theorem gone_on {st : DkSt} (h : On st) (n : List UInt8) : goneF n st = ({ st with fs := fsDel st.fs n }, 0) := by
  unfold goneF
  cases hg : fsGet st.fs n with
  | none => rw [delete_none h hg, del_absent hg]; rfl
  | some f => rw [delete_on h hg]; rfl

/-- Opening where there is power, and no cut to come. -/
theorem open_on {st : DkSt} {l : LgSt} (hon : On st) (ha : Apart st.fs) (hk : LgOk l) (hman : fsGet st.fs fileN = some ⟨fileN, Crc.seal_ (manBytes l.gen l.segs), []⟩) (honly : ∀ f ∈ st.fs, f.name = fileN ∨ f.name = freshN ∨ isSeg f.name)
    (hs : Sound st.fs l) {f : FileS} (hf : fsGet st.fs l.name = some f) (hsc : sgScan (f.firm ++ f.pend) = (0, l.lastIx)) (hgd : l.lastIx.good ≤ (f.firm ++ f.pend).length) :
    ∃ fs', lgOpen st l.cfg = ({ st with fs := fs' }, 0, some l) ∧ fsGet fs' fileN = fsGet st.fs fileN ∧ (∀ i (h : i + 1 < l.segs.length), fsGet fs' (nameOf l.segs[i]) = fsGet st.fs (nameOf l.segs[i])) ∧
      fsGet fs' l.name = (if l.lastIx.good < (f.firm ++ f.pend).length then some ⟨l.name, (f.firm ++ f.pend).take l.lastIx.good, []⟩ else some f) ∧ (∀ f ∈ fs', f.name = fileN ∨ f.name ∈ l.segs.map nameOf) := by
  have h0 := hk.pos
  have hln := load_man hon.lit hk.may hman
  obtain ⟨l0, hl0⟩ : ∃ l0 : LgSt, l0 = { l with ix := l.ix.take 0 } := ⟨_, rfl⟩
  have hl0e : (⟨l.cfg, l.gen, l.segs, []⟩ : LgSt) = l0 := by rw [hl0]; rfl
  have e1 : (fun s : DkSt × LgSt => ((((goneF freshN s.1).1, s.2), (goneF freshN s.1).2) : (DkSt × LgSt) × Int)) (st, l0) = (({ st with fs := fsDel st.fs freshN }, l0), 0) := by simp only [gone_on hon]
  obtain ⟨fs1, hfs1⟩ : ∃ x, x = fsDel st.fs freshN := ⟨_, rfl⟩
  rw [← hfs1] at e1
  have a1 : Apart fs1 := by rw [hfs1]; exact apart_del ha _
  have g1 : ∀ m, m ≠ freshN → fsGet fs1 m = fsGet st.fs m := fun m hm => by rw [hfs1]; exact get_del_ne (fun e => hm e.symm) _
  have on1 : On { st with fs := fs1 } := hon.put _
  obtain ⟨ns, hns⟩ : ∃ ns, ns = (fs1.map (·.name)).filter (orphB l0) := ⟨_, rfl⟩
  have hnm : ∀ n, n ∈ ns ↔ (∃ g ∈ fs1, g.name = n) ∧ isSeg n ∧ n ∉ l.segs.map nameOf := fun n => by
    rw [hns, List.mem_filter, orph_iff, hl0]
    simp only [List.mem_map]
  obtain ⟨fs2, e2, g2, o2⟩ := del_run ns (st := { st with fs := fs1 }) on1 (fun n hn => by
      obtain ⟨⟨g, hg, rfl⟩, _⟩ := (hnm n).1 hn
      simp only
      rw [get_of_mem a1 hg]; rfl) (by rw [hns]; exact List.Pairwise.filter _ (List.pairwise_map.2 a1))
  have e2' : orphF ({ st with fs := fs1 }, l0) = (({ st with fs := fs2 }, l0), 0) := by
    unfold orphF
    simp only
    rw [if_neg (by rw [hon.lit]; decide), ← hns, e2]
  have gF : fsGet fs2 fileN = fsGet st.fs fileN := by
    rw [g2 _ (fun h => not_seg_file ((hnm _).1 h).2.1)]; exact g1 _ (fun e => fresh_ne_file e.symm)
  have gS : ∀ i (hi : i < l.segs.length), fsGet fs2 (nameOf l.segs[i]) = fsGet st.fs (nameOf l.segs[i]) := fun i hi => by
    rw [g2 _ (fun h => ((hnm _).1 h).2.2 (seg_mem hi))]; exact g1 _ (seg_not_fresh hk hi)
  have gL : fsGet fs2 l.name = some f := by
    rw [name_eq h0, gS _ (by omega), ← name_eq h0]; exact hf
  have s2 : Sound fs2 l := ⟨hs.len, fun i hi hi' => by obtain ⟨g, h1, h2⟩ := hs.mid i hi hi'; exact ⟨g, (gS i (by omega)).trans h1, h2⟩, hs.fst, hs.row⟩
  have only2 : ∀ g ∈ fs2, g.name = fileN ∨ g.name ∈ l.segs.map nameOf := fun g hg => by
    obtain ⟨h1, h2⟩ := o2 g hg
    have h3 : g ∈ st.fs ∧ g.name ≠ freshN := by rw [hfs1] at h1; exact mem_del.1 h1
    rcases honly g h3.1 with h | h | h
    · exact .inl h
    · exact absurd h h3.2
    · by_cases hm : g.name ∈ l.segs.map nameOf
      · exact .inr hm
      · exact absurd ((hnm _).2 ⟨⟨g, h1, rfl⟩, h, hm⟩) h2
  have on2 : On { st with fs := fs2 } := hon.put _
  have hlit2 : ({ st with fs := fs2 } : DkSt).dark = false := hon.lit
  have e3 := segs_run (st := { st with fs := fs2 }) hlit2 s2 (l.segs.length - 1) 0 [segF (l.segs.length - 1)] (by omega)
  have e4 := segF_last (st := { st with fs := fs2 }) hlit2 s2 h0 gL hsc
  have hopen : openF l.segs.length = (fun s : DkSt × LgSt => ((((goneF freshN s.1).1, s.2), (goneF freshN s.1).2) : (DkSt × LgSt) × Int)) :: orphF :: (List.range' 0 (l.segs.length - 1)).map segF ++ [segF (l.segs.length - 1)] := by
    unfold openF
    rw [range_last _ h0, List.map_append]; rfl
  have key : ∀ (st' : DkSt), segF (l.segs.length - 1) ({ st with fs := fs2 }, { l with ix := l.ix.take (l.segs.length - 1) }) = ((st', l), 0) → lgOpen st l.cfg = (st', 0, some l) := by
    intro st' h
    have hrun : runL (openF l.segs.length) (st, l0) = ((st', l), 0) := by
      rw [hopen, List.cons_append, List.cons_append, runL_ok e1, runL_ok e2', hl0, e3, Nat.zero_add, runL_ok h]; rfl
    unfold lgOpen
    rw [hln, hk.cfg, if_neg (by decide), if_neg (by simp)]
    simp only [hl0e, hrun]
    rw [if_neg (by simp)]
  by_cases hc : l.lastIx.good < (f.firm ++ f.pend).length
  · rw [if_pos hc] at e4
    have et := trim_on on2 gL (k := l.lastIx.good) (by rw [← List.length_append]; omega)
    rw [et] at e4
    refine ⟨_, key _ e4, ?_, fun i hi => ?_, ?_, fun g hg => ?_⟩
    · rw [get_put_ne (by exact name_not_file hk)]; exact gF
    · rw [get_put_ne]
      · exact gS i (by omega)
      · show l.name ≠ _
        rw [name_eq h0]; exact name_ne hk.may (by omega) (by omega) (by omega)
    · rw [if_pos hc]; exact get_put_eq _ _
    · rcases mem_put.1 hg with rfl | ⟨hg, _⟩
      · exact .inr (name_mem hk)
      · exact only2 g hg
  · rw [if_neg hc] at e4
    refine ⟨fs2, key _ e4, gF, fun i hi => gS i (by omega), ?_, only2⟩
    rw [if_neg hc]; exact gL

/-- Opening a log whose files are just its own: nothing is done. -/
theorem open_still {st : DkSt} {l : LgSt} (hd : st.dark = false) (hk : LgOk l) (ho : LgOn st l) : lgOpen st l.cfg = (st, 0, some l) := by
  have h0 := hk.pos
  have hl := hk.len
  have hln := load_man hd hk.may ho.man
  obtain ⟨l0, hl0⟩ : ∃ l0 : LgSt, l0 = { l with ix := l.ix.take 0 } := ⟨_, rfl⟩
  have hl0e : (⟨l.cfg, l.gen, l.segs, []⟩ : LgSt) = l0 := by rw [hl0]; rfl
  have hg : goneF freshN st = (st, 0) := by
    have : dkDelete st freshN = (st, 5) := by unfold dkDelete; rw [hd, fresh_none hk ho, if_neg (by decide)]
    unfold goneF
    rw [this]; rfl
  have e1 : (fun s : DkSt × LgSt => ((((goneF freshN s.1).1, s.2), (goneF freshN s.1).2) : (DkSt × LgSt) × Int)) (st, l0) = ((st, l0), 0) := by simp only [hg]
  have hns : (st.fs.map (·.name)).filter (orphB l0) = [] := by
    rw [List.filter_eq_nil_iff]
    intro n hn
    rw [orph_iff, hl0]
    obtain ⟨g, hg, rfl⟩ := List.mem_map.1 hn
    rintro ⟨h1, h2⟩
    rcases ho.only g hg with h | h
    · exact not_seg_file (h ▸ h1)
    · exact h2 h
  have e2 : orphF (st, l0) = ((st, l0), 0) := by
    unfold orphF
    simp only
    rw [if_neg (by rw [hd]; decide), hns]; rfl
  have heach : ∀ i (h : i < l.segs.length) (h' : i < l.ix.length), ∃ f, fsGet st.fs (nameOf l.segs[i]) = some f ∧ sgScan (f.firm ++ f.pend) = (0, l.ix[i]) ∧ SgIx.good l.ix[i] = (f.firm ++ f.pend).length := fun i h h' => by
    obtain ⟨f, h1, h2, _⟩ := ho.seg i h h'
    obtain ⟨h3, h4, _⟩ := hk.each i h h'
    have hq : l.ix[i].1 ≤ 1048576 := by
      obtain ⟨a, b, e, _, h5⟩ := may_nat hk.may i h
      rw [e] at h3; simp at h3; omega
    refine ⟨f, h1, by rw [h2]; exact scan_all hq h4, by rw [h2]; rfl⟩
  have hs : Sound st.fs l := ⟨hl, fun i h h' => heach i (by omega) h', fun i h h' => (hk.each i h h').1, hk.row⟩
  obtain ⟨f, hf, hsc, hgd⟩ := heach (l.segs.length - 1) (by omega) (by omega)
  rw [← name_eq h0] at hf
  have hx : l.lastIx = l.ix[l.segs.length - 1]'(by omega) := by rw [lastIx_eq (by omega)]; congr 1; omega
  rw [← hx] at hsc hgd
  have e3 := segs_run hd hs (l.segs.length - 1) 0 [segF (l.segs.length - 1)] (by omega)
  have e4 := segF_last hd hs h0 hf hsc
  rw [if_neg (by omega)] at e4
  have hopen : openF l.segs.length = (fun s : DkSt × LgSt => ((((goneF freshN s.1).1, s.2), (goneF freshN s.1).2) : (DkSt × LgSt) × Int)) :: orphF :: (List.range' 0 (l.segs.length - 1)).map segF ++ [segF (l.segs.length - 1)] := by
    unfold openF
    rw [range_last _ h0, List.map_append]; rfl
  have hrun : runL (openF l.segs.length) (st, l0) = ((st, l), 0) := by
    rw [hopen, List.cons_append, List.cons_append, runL_ok e1, runL_ok e2, hl0, e3, Nat.zero_add, runL_ok e4]; rfl
  unfold lgOpen
  rw [hln, hk.cfg, if_neg (by decide), if_neg (by simp)]
  simp only [hl0e, hrun]
  rw [if_neg (by simp)]
end Go.Proofs.YtcdjckdbcffgdaaGreatDoor

/- seglog, plainly: what a log's disk keeps wherever the power goes, and how it is opened behind that. -/
namespace Go.Proofs.YtcdjckdbcffgdaaGreatDoor

/-! ### Ops that a cut may end -/
/-- An op that was begun with power: it is done, or the power is gone; then the files may be as they were, or as they would be. -/
def Cutd (st : DkSt) (fs' : Fs) (r : DkSt × Int) : Prop := r = ({ st with left := dec st.left, fs := fs' }, 0) ∨ (r.2 = 45 ∧ r.1.dark = true ∧ (r.1.fs = st.fs ∨ r.1.fs = fs'))
theorem doing_cut (st : DkSt) (fs' : Fs) : Cutd st fs' (doing st fs') := by
  unfold doing
  by_cases h0 : st.left = 0
  · rw [if_pos h0]; exact .inr ⟨rfl, rfl, .inl rfl⟩
  · rw [if_neg h0]; exact .inl rfl
theorem create_cut {st : DkSt} (h : st.dark = false) {n : List UInt8} (hn : mayName n = true) (hg : fsGet st.fs n = none) (hl : st.fs.length < 64) : Cutd st (fsPut st.fs ⟨n, [], []⟩) (dkCreate st n) := by
  have e : dkCreate st n = doing st (fsPut st.fs ⟨n, [], []⟩) := by unfold dkCreate; rw [h, hn, hg, if_neg (by decide), if_neg (by decide), if_neg (by simp), if_neg (by omega)]
  rw [e]; exact doing_cut _ _
theorem sync_cut {st : DkSt} (h : st.dark = false) {n : List UInt8} {f : FileS} (hg : fsGet st.fs n = some f) : Cutd st (fsPut st.fs ⟨n, f.firm ++ f.pend, []⟩) (dkSync st n) := by
  have e : dkSync st n = doing st (fsPut st.fs ⟨n, f.firm ++ f.pend, []⟩) := by unfold dkSync; rw [h, hg, if_neg (by decide)]
  rw [e]; exact doing_cut _ _
theorem rename_cut {st : DkSt} (h : st.dark = false) {a c : List UInt8} {f : FileS} (hg : fsGet st.fs a = some f) (hc : mayName c = true) (hne : a ≠ c) : Cutd st (fsPut (fsDel st.fs a) ⟨c, f.firm, f.pend⟩) (dkRename st a c) := by
  have e : dkRename st a c = doing st (fsPut (fsDel st.fs a) ⟨c, f.firm, f.pend⟩) := by
    unfold dkRename
    rw [h, hg, if_neg (by decide)]
    simp only [hc, Bool.not_true, Bool.false_eq_true, if_false]
    rw [if_neg hne]
  rw [e]; exact doing_cut _ _
theorem append_cut {st : DkSt} (h : st.dark = false) {n x : List UInt8} {f : FileS} (hg : fsGet st.fs n = some f) (h1 : f.firm.length + f.pend.length + x.length ≤ 1048576) (h2 : (used st.fs : Int) + (x.length : Int) ≤ st.cap) :
    Cutd st (fsPut st.fs ⟨n, f.firm, f.pend ++ x⟩) (dkAppend st n x) := by
  unfold dkAppend
  rw [h, hg, if_neg (by decide)]
  simp only
  rw [if_neg (by omega)]
  by_cases h0 : st.left = 0
  · rw [if_pos h0]; exact .inr ⟨rfl, rfl, .inr rfl⟩
  · rw [if_neg h0]; exact .inl (by rw [h])

theorem swapL_stop {s : List UInt8} {k : Nat} {r : List Nat} {st : DkSt} (h : (stepF s k st).2 = 45) : swapL s (k :: r) st = stepF s k st := by
  rw [swapL, if_pos (by rw [h]; simp)]
theorem swapL_go {s : List UInt8} {k : Nat} {r : List Nat} {st st' : DkSt} (h : stepF s k st = (st', 0)) : swapL s (k :: r) st = swapL s r st' := by
  rw [swapL, if_neg (by rw [h]; simp), h]

set_option maxHeartbeats 1000000 in
/-- A swap that has room: it is done, or the power is gone. -/
theorem swap_cut {st : DkSt} (h : st.dark = false) {g : Int} {m : Segs} (hm : mayB g m = true) (hf : fsGet st.fs freshN = none) (hl : st.fs.length < 64) (hu : (used st.fs : Int) + 18 + 16 * (m.length : Int) ≤ st.cap) :
    (∃ left', dkSwap st g m = ({ st with left := left', fs := fsPut st.fs ⟨fileN, Crc.seal_ (manBytes g m), []⟩ }, 0)) ∨ ((dkSwap st g m).2 = 45 ∧ (dkSwap st g m).1.dark = true ∧ SwKeep st (dkSwap st g m).1) := by
  have hends := swap_ends st h g m hm
  have stop : (dkSwap st g m).2 = 45 → ((dkSwap st g m).2 = 45 ∧ (dkSwap st g m).1.dark = true ∧ SwKeep st (dkSwap st g m).1) := fun e => by
    rcases hends with ⟨h1, _⟩ | ⟨_, h2, h3⟩
    · rw [e] at h1; simp at h1
    · exact ⟨e, h3.2 e, h2⟩
  obtain ⟨_, _, _, hml, _⟩ := mayB_all hm
  have hlen : (Crc.seal_ (manBytes g m)).length = 18 + 16 * m.length := by rw [Crc.seal_length, manBytes_length]; omega
  have hdef : dkSwap st g m = (swapEnd (swapL (Crc.seal_ (manBytes g m)) [0, 1, 2, 3, 4] st).2 (swapL (Crc.seal_ (manBytes g m)) [0, 1, 2, 3, 4] st).1) := by unfold dkSwap; rw [if_pos hm]
  generalize Crc.seal_ (manBytes g m) = s at *
  have fin : ∀ {r : DkSt × Int}, swapL s [0, 1, 2, 3, 4] st = r → r.2 = 45 → (dkSwap st g m).2 = 45 := fun {r} e h => by
    rw [hdef, e, h, swapEnd_ne (by decide)]
  have l0 : swapL s [0, 1, 2, 3, 4] st = swapL s [1, 2, 3, 4] st := by
    have e0 : stepF s 0 st = (st, 5) := by show dkDelete st freshN = _; unfold dkDelete; rw [h, hf, if_neg (by decide)]
    rw [swapL, e0]; rfl
  have c1 : Cutd st (fsPut st.fs ⟨freshN, [], []⟩) (stepF s 1 st) := create_cut h (by decide +kernel) hf hl
  rcases c1 with e1 | ⟨h45, _⟩
  rotate_left
  · exact .inr (stop (fin (l0.trans (swapL_stop h45)) h45))
  obtain ⟨st1, hst1⟩ : ∃ x : DkSt, x = { st with left := dec st.left, fs := fsPut st.fs ⟨freshN, [], []⟩ } := ⟨_, rfl⟩
  rw [← hst1] at e1
  have d1 : st1.dark = false := by rw [hst1]; exact h
  have f1 : st1.fs = fsPut st.fs ⟨freshN, [], []⟩ := by rw [hst1]
  have p1 : st1.cap = st.cap := by rw [hst1]
  have hu1 : used st1.fs = used st.fs := by rw [f1, used_new hf]; simp
  have l1 := l0.trans (swapL_go e1 (r := [2, 3, 4]))
  have g1 : fsGet st1.fs freshN = some ⟨freshN, [], []⟩ := by rw [f1]; exact get_put_eq ⟨freshN, [], []⟩ _
  have c2 : Cutd st1 (fsPut st1.fs ⟨freshN, [], s⟩) (stepF s 2 st1) := append_cut (x := s) d1 g1 (by simp; omega) (by rw [hu1, p1]; omega)
  rcases c2 with e2 | ⟨h45, _⟩
  rotate_left
  · exact .inr (stop (fin (l1.trans (swapL_stop h45)) h45))
  obtain ⟨st2, hst2⟩ : ∃ x : DkSt, x = { st1 with left := dec st1.left, fs := fsPut st1.fs ⟨freshN, [], s⟩ } := ⟨_, rfl⟩
  rw [← hst2] at e2
  have d2 : st2.dark = false := by rw [hst2]; exact d1
  have f2 : st2.fs = fsPut st.fs ⟨freshN, [], s⟩ := by rw [hst2]; simp only [f1]; exact put_put (f := ⟨freshN, [], []⟩) (g := ⟨freshN, [], s⟩) rfl
  have l2 := l1.trans (swapL_go e2 (r := [3, 4]))
  have g2 : fsGet st2.fs freshN = some ⟨freshN, [], s⟩ := by rw [f2]; exact get_put_eq ⟨freshN, [], s⟩ _
  have c3 : Cutd st2 (fsPut st2.fs ⟨freshN, [] ++ s, []⟩) (stepF s 3 st2) := sync_cut d2 g2
  rcases c3 with e3 | ⟨h45, _⟩
  rotate_left
  · exact .inr (stop (fin (l2.trans (swapL_stop h45)) h45))
  obtain ⟨st3, hst3⟩ : ∃ x : DkSt, x = { st2 with left := dec st2.left, fs := fsPut st2.fs ⟨freshN, [] ++ s, []⟩ } := ⟨_, rfl⟩
  rw [← hst3] at e3
  have d3 : st3.dark = false := by rw [hst3]; exact d2
  have f3 : st3.fs = fsPut st.fs ⟨freshN, s, []⟩ := by rw [hst3]; simp only [f2, List.nil_append]; exact put_put (f := ⟨freshN, [], s⟩) (g := ⟨freshN, s, []⟩) rfl
  have l3 := l2.trans (swapL_go e3 (r := [4]))
  have g3 : fsGet st3.fs freshN = some ⟨freshN, s, []⟩ := by rw [f3]; exact get_put_eq ⟨freshN, s, []⟩ _
  have c4 : Cutd st3 (fsPut (fsDel st3.fs freshN) ⟨fileN, s, []⟩) (stepF s 4 st3) := rename_cut d3 g3 (by decide +kernel) fresh_ne_file
  rcases c4 with e4 | ⟨h45, _⟩
  rotate_left
  · exact .inr (stop (fin (l3.trans (swapL_stop h45)) h45))
  left
  have l4 := l3.trans (swapL_go e4 (r := []))
  have ed : fsDel st3.fs freshN = st.fs := by
    rw [f3]; unfold fsPut
    rw [show freshN = (⟨freshN, s, []⟩ : FileS).name from rfl, ins_del (get_del_eq _ _), del_none hf]
  refine ⟨dec st3.left, ?_⟩
  have e5 : swapL s [] { st3 with left := dec st3.left, fs := fsPut (fsDel st3.fs freshN) ⟨fileN, s, []⟩ } = ({ st3 with left := dec st3.left, fs := fsPut (fsDel st3.fs freshN) ⟨fileN, s, []⟩ }, 0) := rfl
  rw [hdef, l4, e5, swapEnd_ne (by show (0 : Int) ≠ 44; decide)]
  simp only [ed]
  have c3 : st3.cap = st.cap := by rw [hst3, hst2, hst1]
  have d3' : st3.dark = st.dark := by rw [d3, h]
  rw [c3, d3']

/-! ### What is kept -/
/-- What a log's disk holds, whatever else there is: x are batches that were on their way; S of them all stand for good. -/
structure Kp (fs : Fs) (l : LgSt) (x : List (List UInt8)) (S : Nat) : Prop where
  man : fsGet fs fileN = some ⟨fileN, Crc.seal_ (manBytes l.gen l.segs), []⟩
  mid : ∀ i (h : i + 1 < l.segs.length) (h' : i < l.ix.length), ∃ f, fsGet fs (nameOf l.segs[i]) = some f ∧ f.firm = segBytes l.ix[i].1 l.ix[i].2 ∧ f.pend = []
  last : ∃ f m, fsGet fs l.name = some f ∧ f.firm ++ f.pend = segBytes l.lastIx.1 (l.lastIx.2 ++ x) ∧ m ≤ l.lastIx.2.length ∧ S ≤ l.lastIx.1 + m ∧ (segBytes l.lastIx.1 (l.lastIx.2.take m)).length ≤ f.firm.length
  only : ∀ f ∈ fs, f.name = fileN ∨ f.name = freshN ∨ isSeg f.name
theorem seg_is {l : LgSt} (hk : LgOk l) {n : List UInt8} (h : n ∈ l.segs.map nameOf) : isSeg n := by
  obtain ⟨x, hx, e⟩ := List.mem_map.1 h
  obtain ⟨i, hi, rfl⟩ := List.getElem_of_mem hx
  obtain ⟨a, f, e2, h1, h2⟩ := may_nat hk.may i hi
  exact ⟨a, f, h1, h2, by rw [← e, e2]; rfl⟩
/-- How much of the open segment stands for good. -/
def Floor (fs : Fs) (l : LgSt) (S : Nat) : Prop := ∃ f m, fsGet fs l.name = some f ∧ m ≤ l.lastIx.2.length ∧ S ≤ l.lastIx.1 + m ∧ (segBytes l.lastIx.1 (l.lastIx.2.take m)).length ≤ f.firm.length
theorem kp_lit {st : DkSt} {l : LgSt} {S : Nat} (hk : LgOk l) (ho : LgOn st l) (hf : Floor st.fs l S) : Kp st.fs l [] S := by
  obtain ⟨f, m, h1, h2, h3, h4⟩ := hf
  refine ⟨ho.man, fun i h h' => ?_, ?_, fun g hg => ?_⟩
  · obtain ⟨g, e1, e2, _, e4⟩ := ho.seg i (by omega) h'
    have e5 := e4 (by omega)
    exact ⟨g, e1, by rw [← e2, e5, List.append_nil], e5⟩
  · obtain ⟨g, e1, e2, _⟩ := ho.last hk
    rw [h1] at e1
    obtain rfl := Option.some.inj e1
    exact ⟨f, m, h1, by rw [List.append_nil]; exact e2, h2, h3, h4⟩
  · rcases ho.only g hg with h | h
    · exact .inl h
    · exact .inr (.inr (seg_is hk h))
/-- All that is in the open segment stands for good. -/
theorem floor_all {fs : Fs} {l : LgSt} {f : FileS} (h : fsGet fs l.name = some f) (hb : f.firm ++ f.pend = segBytes l.lastIx.1 l.lastIx.2) (hp : f.pend = []) : Floor fs l l.next := by
  refine ⟨f, l.lastIx.2.length, h, Nat.le_refl _, Nat.le_refl _, ?_⟩
  rw [hp, List.append_nil] at hb
  rw [List.take_length, hb]
  exact Nat.le_refl _
theorem Kp.other {fs : Fs} {l : LgSt} {x : List (List UInt8)} {S : Nat} (h : Kp fs l x S) (hk : LgOk l) {n : List UInt8} (hn : isSeg n) (hne : n ∉ l.segs.map nameOf) (a b : List UInt8) : Kp (fsPut fs ⟨n, a, b⟩) l x S := by
  have h0 := hk.pos
  refine ⟨?_, fun i hi hi' => ?_, ?_, fun g hg => ?_⟩
  · rw [get_put_ne (by exact fun e : n = fileN => not_seg_file (e ▸ hn))]; exact h.man
  · rw [get_put_ne (by exact fun e : n = _ => hne (e ▸ seg_mem (by omega)))]; exact h.mid i hi hi'
  · obtain ⟨f, m, h1, h2⟩ := h.last
    exact ⟨f, m, by rw [get_put_ne (by exact fun e : n = l.name => hne (e ▸ name_mem hk))]; exact h1, h2⟩
  · rcases mem_put.1 hg with rfl | ⟨hg, _⟩
    · exact .inr (.inr hn)
    · exact h.only g hg
theorem Kp.synced {fs : Fs} {l : LgSt} {x : List (List UInt8)} {S : Nat} (h : Kp fs l x S) (hk : LgOk l) {f : FileS} (hf : fsGet fs l.name = some f) : Kp (fsPut fs ⟨l.name, f.firm ++ f.pend, []⟩) l x S := by
  have h0 := hk.pos
  refine ⟨?_, fun i hi hi' => ?_, ?_, fun g hg => ?_⟩
  · rw [get_put_ne (by exact name_not_file hk)]; exact h.man
  · rw [get_put_ne]
    · exact h.mid i hi hi'
    · show l.name ≠ _
      rw [name_eq h0]; exact name_ne hk.may (by omega) (by omega) (by omega)
  · obtain ⟨g, m, h1, h2, h3, h4, h5⟩ := h.last
    rw [hf] at h1
    obtain rfl := Option.some.inj h1
    exact ⟨_, m, get_put_eq _ _, by simpa using h2, h3, h4, by simp only [List.length_append]; omega⟩
  · rcases mem_put.1 hg with rfl | ⟨hg, _⟩
    · exact .inr (.inr (seg_is hk (name_mem hk)))
    · exact h.only g hg
theorem get_oth {fs : Fs} {n : List UInt8} (h : isM n = false) : fsGet (oth fs) n = fsGet fs n := by
  induction fs with
  | nil => rfl
  | cons f r ih =>
    cases hf : isM f.name
    · rw [oth_cons_out hf]
      by_cases hn : f.name = n
      · subst hn; rw [get_cons_eq, get_cons_eq]
      · rw [get_cons_ne hn, get_cons_ne hn, ih]
    · rw [oth_cons_in hf, ih, get_cons_ne]
      rintro rfl; rw [hf] at h; cases h
theorem seg_isM {n : List UInt8} (h : isSeg n) : isM n = false := by
  unfold isM
  rw [Bool.or_eq_false_iff]
  exact ⟨by rw [beq_eq_false_iff_ne]; exact fun e => not_seg_file (e ▸ h), by rw [beq_eq_false_iff_ne]; exact fun e => not_seg_fresh (e ▸ h)⟩
theorem Kp.swkeep {st st' : DkSt} {l : LgSt} {x : List (List UInt8)} {S : Nat} (h : Kp st.fs l x S) (hk : LgOk l) (hs : SwKeep st st') : Kp st'.fs l x S := by
  have h0 := hk.pos
  obtain ⟨h1, h2⟩ := hs
  have hg : ∀ n, isSeg n → fsGet st'.fs n = fsGet st.fs n := fun n hn => by rw [← get_oth (seg_isM hn), h1, get_oth (seg_isM hn)]
  refine ⟨h2.trans h.man, fun i hi hi' => ?_, ?_, fun g hg9 => ?_⟩
  · rw [hg _ (seg_is hk (seg_mem (by omega)))]; exact h.mid i hi hi'
  · obtain ⟨f, m, e1, e2⟩ := h.last
    exact ⟨f, m, by rw [hg _ (seg_is hk (name_mem hk))]; exact e1, e2⟩
  · cases hm : isM g.name
    · have : g ∈ oth st'.fs := by unfold oth; exact List.mem_filter.2 ⟨hg9, by rw [hm]; rfl⟩
      rw [h1] at this
      unfold oth at this
      exact h.only g (List.mem_filter.1 this).1
    · unfold isM at hm
      rw [Bool.or_eq_true] at hm
      rcases hm with e | e
      · exact .inl (by simpa using e)
      · exact .inr (.inl (by simpa using e))
end Go.Proofs.YtcdjckdbcffgdaaGreatDoor
