/- seglog, plainly: where a batch lies. -/
import Derived.Test.YtcdjckdbcffgdaaGreatDoorMAn
namespace Go.Proofs.YtcdjckdbcffgdaaGreatDoor

theorem flat_get {α : Type} : ∀ (L : List (List α)) (i : Nat) (hi : i < L.length) (k : Nat), k < L[i].length → L.flatten[((L.take i).map List.length).sum + k]? = L[i][k]?
  | [], i, hi, _, _ => by simp at hi
  | a :: r, 0, _, k, hk => by
    simp only [List.take_zero, List.map_nil, List.sum_nil, Nat.zero_add, List.flatten_cons, List.getElem_cons_zero]
    exact List.getElem?_append_left hk
  | a :: r, i + 1, hi, k, hk => by
    simp only [List.take_succ_cons, List.map_cons, List.sum_cons, List.flatten_cons, List.getElem_cons_succ] at hk ⊢
    rw [List.getElem?_append_right (by omega), show a.length + ((r.take i).map List.length).sum + k - a.length = ((r.take i).map List.length).sum + k from by omega]
    exact flat_get r i (by simpa using hi) k hk
theorem first_eq {l : LgSt} (h : LgOk l) (h0 : 0 < l.ix.length) : l.first = (l.ix[0].1 : Int) := by
  have h1 := h.len
  have h2 := h.each 0 (by omega) h0
  unfold LgSt.first
  rw [List.head?_eq_getElem?, List.getElem?_eq_getElem (by omega)]
  exact h2.1
theorem starts {l : LgSt} (h : LgOk l) : ∀ (i : Nat) (hi : i < l.ix.length), l.ix[i].1 = (l.ix[0]'(by omega)).1 + (((l.ix.map (·.2)).take i).map List.length).sum
  | 0, _ => by simp
  | i + 1, hi => by
    have h1 := starts h i (by omega)
    rw [h.row i hi, show SgIx.next l.ix[i] = l.ix[i].1 + l.ix[i].2.length from rfl, h1]
    rw [List.take_succ_eq_append_getElem (by simpa using (by omega : i < l.ix.length)), List.map_append, List.sum_append]
    simp; omega
theorem next_eq {l : LgSt} (h : LgOk l) (h0 : 0 < l.ix.length) : l.next = l.ix[0].1 + l.all.length := by
  have h1 := starts h (l.ix.length - 1) (by omega)
  have h2 : l.next = l.ix[l.ix.length - 1].1 + l.ix[l.ix.length - 1].2.length := by unfold LgSt.next; rw [lastIx_eq h0]; rfl
  have h3 : l.all.length = (((l.ix.map (·.2)).take (l.ix.length - 1)).map List.length).sum + l.ix[l.ix.length - 1].2.length := by
    have e : l.ix.map (·.2) = (l.ix.map (·.2)).take (l.ix.length - 1) ++ [l.ix[l.ix.length - 1].2] := by
      have := List.take_append_drop (l.ix.length - 1) (l.ix.map (·.2))
      rw [List.drop_eq_getElem_cons (by simp; omega), List.drop_of_length_le (by simp; omega)] at this
      rw [← List.getElem_map (f := fun x : SgIx => x.2) (h := by simp; omega)]
      exact this.symm
    unfold LgSt.all
    conv => lhs; rw [e]
    rw [List.length_flatten, List.map_append, List.sum_append]
    simp
  omega
/-- The segment of a number that is there. -/
theorem find_seg {l : LgSt} (h : LgOk l) {q : Nat} (h0 : l.first ≤ (q : Int)) (h1 : q < l.next) :
    ∃ (i : Nat) (_ : i < l.segs.length) (hi : i < l.ix.length), findB l.segs (q : Int) = (i : Int) ∧ l.ix[i].1 ≤ q ∧ q - l.ix[i].1 < l.ix[i].2.length ∧ l.all[q - l.first.toNat]? = (l.ix[i].2)[q - l.ix[i].1]? := by
  have hl := h.len
  have hp := h.pos
  have hf := first_eq h (by omega)
  have e0 := h.each 0 (by omega) (by omega)
  have hu1 : 1 ≤ upTo (q : Int) l.segs := by
    rcases Nat.eq_zero_or_pos (upTo (q : Int) l.segs) with h9 | h9
    · have := up_at (q := (q : Int)) (l := l.segs) (by omega)
      simp only [h9] at this
      rw [e0.1, ← hf] at this; omega
    · omega
  have hul := up_le (q : Int) l.segs
  have hfd := find_up (q := (q : Int)) h.may
  have hi : upTo (q : Int) l.segs - 1 < l.segs.length := by omega
  have hi' : upTo (q : Int) l.segs - 1 < l.ix.length := by omega
  have h3 := up_lt (q := (q : Int)) (l := l.segs) (i := upTo (q : Int) l.segs - 1) (by omega) hi
  have h4 := h.each _ hi hi'
  have h5 : l.ix[upTo (q : Int) l.segs - 1].1 ≤ q := by rw [h4.1] at h3; omega
  have h6 : q < SgIx.next l.ix[upTo (q : Int) l.segs - 1] := by
    by_cases hc : upTo (q : Int) l.segs < l.segs.length
    · have h7 := up_at (q := (q : Int)) hc
      have h8 := h.each _ hc (by omega)
      have h9 := h.row (upTo (q : Int) l.segs - 1) (by omega)
      rw [h8.1] at h7
      simp only [show upTo (q : Int) l.segs - 1 + 1 = upTo (q : Int) l.segs from by omega] at h9
      omega
    · have h9 : l.next = SgIx.next l.ix[upTo (q : Int) l.segs - 1] := by
        unfold LgSt.next
        rw [lastIx_eq (by omega)]
        congr 2; omega
      omega
  have h7 : q - l.ix[upTo (q : Int) l.segs - 1].1 < l.ix[upTo (q : Int) l.segs - 1].2.length := by
    have : SgIx.next l.ix[upTo (q : Int) l.segs - 1] = l.ix[upTo (q : Int) l.segs - 1].1 + l.ix[upTo (q : Int) l.segs - 1].2.length := rfl
    omega
  refine ⟨upTo (q : Int) l.segs - 1, hi, hi', by rw [hfd]; omega, h5, h7, ?_⟩
  have hs := starts h _ hi'
  have hg := flat_get (l.ix.map (·.2)) (upTo (q : Int) l.segs - 1) (by simpa using hi') (q - l.ix[upTo (q : Int) l.segs - 1].1) (by simpa using h7)
  rw [List.getElem_map] at hg
  rw [← hg]
  unfold LgSt.all
  congr 1
  rw [hf]; omega
end Go.Proofs.YtcdjckdbcffgdaaGreatDoor

/- seglog, plainly: what an append does where there is power, and no cut to come. -/
namespace Go.Proofs.YtcdjckdbcffgdaaGreatDoor

theorem get_none {fs : Fs} {n : List UInt8} (h : ∀ f ∈ fs, f.name ≠ n) : fsGet fs n = none := by
  unfold fsGet
  rw [List.find?_eq_none]
  intro f hf
  simpa using h f hf
theorem runL_ok {σ : Type} {f : σ → σ × Int} {r : List (σ → σ × Int)} {s s' : σ} (h : f s = (s', 0)) : runL (f :: r) s = runL r s' := by
  show (if (f s).2 ≠ 0 then f s else runL r (f s).1) = _
  rw [h]; rfl
theorem runL_no {σ : Type} {f : σ → σ × Int} {r : List (σ → σ × Int)} {s : σ} (h : (f s).2 ≠ 0) : runL (f :: r) s = f s := by
  show (if (f s).2 ≠ 0 then f s else runL r (f s).1) = _
  rw [if_pos h]
theorem seg_not_file {l : LgSt} (hk : LgOk l) {i : Nat} (hi : i < l.segs.length) : nameOf l.segs[i] ≠ fileN := by
  obtain ⟨a, f, e, h1, h2⟩ := may_nat hk.may i hi
  rw [e]; exact segName_not_M h1 h2 _
theorem seg_not_fresh {l : LgSt} (hk : LgOk l) {i : Nat} (hi : i < l.segs.length) : nameOf l.segs[i] ≠ freshN := by
  obtain ⟨a, f, e, h1, h2⟩ := may_nat hk.may i hi
  rw [e]; exact segName_not_M h1 h2 _
theorem name_not_file {l : LgSt} (hk : LgOk l) : l.name ≠ fileN := by
  have := hk.pos
  rw [name_eq hk.pos]; exact seg_not_file hk _
theorem name_mem {l : LgSt} (hk : LgOk l) : l.name ∈ l.segs.map nameOf := by
  have := hk.pos
  rw [name_eq hk.pos]; exact List.mem_map_of_mem (List.getElem_mem _)
theorem fresh_none {st : DkSt} {l : LgSt} (hk : LgOk l) (ho : LgOn st l) : fsGet st.fs freshN = none := by
  refine get_none fun f hf => ?_
  rcases ho.only f hf with h | h
  · rw [h]; exact fun e => fresh_ne_file e.symm
  · obtain ⟨x, hx, e⟩ := List.mem_map.1 h
    obtain ⟨i, hi, rfl⟩ := List.getElem_of_mem hx
    rw [← e]; exact seg_not_fresh hk hi

set_option maxHeartbeats 1000000 in
theorem put_on {st : DkSt} {l : LgSt} {p : List UInt8} (hon : On st) (hk : LgOk l) (ho : LgOn st l) (_ : l.next < 1048576) (hg : l.lastIx.good + 16 + p.length ≤ 1048576) (hu : (used st.fs : Int) + (16 + (p.length : Int)) ≤ st.cap) :
    ∃ fs', lgPut st l p = (({ st with fs := fs' }, l.add p), 0) ∧ LgOn { st with fs := fs' } (l.add p) := by
  obtain ⟨f, hf, hb, h16⟩ := ho.last hk
  have h0 := hk.pos
  have h1 := hk.len
  have hfl : f.firm.length + f.pend.length = l.lastIx.good := by unfold SgIx.good; rw [← hb, List.length_append]
  have e := append_on (x := frBytes l.next p) hon hf (by rw [frBytes_length]; omega) (by rw [frBytes_length]; omega)
  refine ⟨fsPut st.fs ⟨l.name, f.firm, f.pend ++ frBytes l.next p⟩, by unfold lgPut; simp [e], ?_, ?_, ?_⟩
  · show fsGet (fsPut st.fs ⟨l.name, _, _⟩) fileN = _
    rw [get_put_ne (name_not_file hk)]; exact ho.man
  · intro i hi hi'
    have hs : (l.add p).segs = l.segs := rfl
    have hi2 : i < l.segs.length := hi
    have hi3 : i < l.ix.length := by omega
    show ∃ f, fsGet (fsPut st.fs ⟨l.name, _, _⟩) (nameOf l.segs[i]) = some f ∧ f.firm ++ f.pend = segBytes (l.add p).ix[i].1 (l.add p).ix[i].2 ∧ 16 ≤ f.firm.length ∧ (i + 1 < l.segs.length → f.pend = [])
    rw [add_get l p i hi' hi3]
    by_cases hc : i + 1 = l.ix.length
    · rw [if_pos hc]
      have en : nameOf l.segs[i] = l.name := by rw [name_eq h0]; congr 2; omega
      rw [en]
      refine ⟨_, get_put_eq _ _, ?_, h16, fun h => by omega⟩
      show f.firm ++ (f.pend ++ frBytes l.next p) = segBytes l.lastIx.1 (l.lastIx.2 ++ [p])
      rw [segBytes_snoc, ← List.append_assoc, hb]; rfl
    · rw [if_neg hc]
      obtain ⟨g, hg1, hg2⟩ := ho.seg i hi2 hi3
      refine ⟨g, ?_, hg2⟩
      rw [get_put_ne]
      · exact hg1
      · show l.name ≠ _
        rw [name_eq h0]; exact name_ne hk.may (by omega) hi2 (by omega)
  · intro g hg
    rcases mem_put.1 hg with rfl | ⟨hg, _⟩
    · exact .inr (show l.name ∈ l.segs.map nameOf from name_mem hk)
    · exact ho.only g hg

/-- The files behind a rotation. -/
def rotFs (fs : Fs) (l : LgSt) (f : FileS) : Fs := fsPut (fsPut (fsPut fs ⟨l.name, f.firm ++ f.pend, []⟩) ⟨segName l.gen (l.next : Int), segHead l.next, []⟩) ⟨fileN, Crc.seal_ (manBytes l.gen (l.segs ++ [(l.gen, (l.next : Int))])), []⟩
set_option maxHeartbeats 2000000 in
theorem rot_on {st : DkSt} {l : LgSt} (hon : On st) (ha : Apart st.fs) (hk : LgOk l) (ho : LgOn st l) (hm : mayB l.gen (l.segs ++ [(l.gen, (l.next : Int))]) = true) (hu : (used st.fs : Int) + 50 + 16 * (l.segs.length : Int) ≤ st.cap) (hfl : st.fs.length + 2 ≤ 64) :
    ∃ fs', lgRotate st l = (({ st with fs := fs' }, l.turn), 0) ∧ LgOn { st with fs := fs' } l.turn ∧ used fs' ≤ used st.fs + 32 ∧ Apart fs' ∧ ∃ f, fsGet st.fs l.name = some f ∧ fs' = rotFs st.fs l f := by
  obtain ⟨f, hf, hb, h16⟩ := ho.last hk
  have h0 := hk.pos
  have h1 := hk.len
  have hkt := hk.turn hm
  have htl : l.turn.segs.length = l.segs.length + 1 := by unfold LgSt.turn; simp
  have htn : l.turn.segs[l.segs.length]'(by omega) = (l.gen, (l.next : Int)) := by unfold LgSt.turn; simp
  have hold : ∀ i (hi : i < l.segs.length), l.turn.segs[i]'(by omega) = l.segs[i] := fun i hi => by unfold LgSt.turn; simp [List.getElem_append_left hi]
  obtain ⟨n, hn⟩ : ∃ n, n = segName l.gen (l.next : Int) := ⟨_, rfl⟩
  have hnt : nameOf (l.turn.segs[l.segs.length]'(by omega)) = n := by rw [htn, hn]; rfl
  have hnF : n ≠ fileN := by rw [← hnt]; exact seg_not_file hkt _
  have hnR : n ≠ freshN := by rw [← hnt]; exact seg_not_fresh hkt _
  have hnO : ∀ i (hi : i < l.segs.length), nameOf l.segs[i] ≠ n := fun i hi => by
    have := name_ne (i := i) (j := l.segs.length) hkt.may (by omega) (by omega) (by omega)
    rw [hold i hi, hnt] at this; exact this
  have hnM : mayName n = true := by
    obtain ⟨a, b, e, g1, g2⟩ := may_nat hkt.may l.segs.length (by omega)
    rw [← hnt, e]; exact segName_may g1 g2
  have hnone : ∀ g ∈ st.fs, g.name ≠ n := fun g hg => by
    rcases ho.only g hg with h | h
    · rw [h]; exact hnF.symm
    · obtain ⟨x, hx, e⟩ := List.mem_map.1 h
      obtain ⟨i, hi, rfl⟩ := List.getElem_of_mem hx
      rw [← e]; exact hnO i hi
  have hLN : l.name ≠ n := by rw [name_eq h0]; exact hnO _ _
  have hLF := name_not_file hk
  have hgn := get_none hnone
  have hfr := fresh_none hk ho
  -- the steps
  obtain ⟨fs1, hfs1⟩ : ∃ x, x = fsPut st.fs ⟨l.name, f.firm ++ f.pend, []⟩ := ⟨_, rfl⟩
  have e1 : lgSync st l = ({ st with fs := fs1 }, 0) := by rw [hfs1]; exact sync_on hon hf
  have a1 : Apart fs1 := by rw [hfs1]; exact apart_put ha _
  have u1 : used fs1 = used st.fs := by have := used_old ha (g := ⟨l.name, f.firm ++ f.pend, []⟩) hf; rw [← hfs1] at this; simp at this; omega
  have n1 : fs1.length = st.fs.length := by rw [hfs1]; exact len_old ha (g := ⟨l.name, f.firm ++ f.pend, []⟩) hf
  have g1 : fsGet fs1 n = none := by rw [hfs1, get_put_ne (by exact hLN)]; exact hgn
  have e2 : dkCreate { st with fs := fs1 } n = ({ st with fs := fsPut fs1 ⟨n, [], []⟩ }, 0) := create_on (st := { st with fs := fs1 }) (hon.put _) hnM g1 (by simp only; omega)
  have u2 : used (fsPut fs1 ⟨n, [], []⟩) = used fs1 := by rw [used_new g1]; simp
  have hl := segHead_length l.next
  have e3 : unlessF n (fun st => dkAppend st n (segHead l.next)) { st with fs := fsPut fs1 ⟨n, [], []⟩ } = ({ st with fs := fsPut fs1 ⟨n, [], segHead l.next⟩ }, 0) := by
    have h3 : dkAppend { st with fs := fsPut fs1 ⟨n, [], []⟩ } n (segHead l.next) = ({ st with fs := fsPut fs1 ⟨n, [], segHead l.next⟩ }, 0) := by
      rw [append_on (st := { st with fs := fsPut fs1 ⟨n, [], []⟩ }) (hon.put _) (get_put_eq ⟨n, [], []⟩ fs1) (by simp; omega) (by simp only [u2]; omega)]
      simp only [List.nil_append]
      rw [put_put (f := ⟨n, [], []⟩) (g := ⟨n, [], segHead l.next⟩) rfl]
    unfold unlessF
    simp [h3]
  have e4 : dkSync { st with fs := fsPut fs1 ⟨n, [], segHead l.next⟩ } n = ({ st with fs := fsPut fs1 ⟨n, segHead l.next, []⟩ }, 0) := by
    rw [sync_on (st := { st with fs := fsPut fs1 ⟨n, [], segHead l.next⟩ }) (hon.put _) (get_put_eq ⟨n, [], segHead l.next⟩ fs1)]
    simp only [List.nil_append]
    rw [put_put (f := ⟨n, [], segHead l.next⟩) (g := ⟨n, segHead l.next, []⟩) rfl]
  obtain ⟨fs4, hfs4⟩ : ∃ x, x = fsPut fs1 ⟨n, segHead l.next, []⟩ := ⟨_, rfl⟩
  have a4 : Apart fs4 := by rw [hfs4]; exact apart_put a1 _
  have u4 : used fs4 = used st.fs + 16 := by rw [hfs4, used_new (by exact g1)]; simp; omega
  have n4 : fs4.length = st.fs.length + 1 := by rw [hfs4, len_new (by exact g1)]; omega
  have r4 : fsGet fs4 freshN = none := by
    rw [hfs4, get_put_ne (by exact hnR), hfs1, get_put_ne]
    · exact hfr
    · show l.name ≠ freshN
      rw [name_eq h0]; exact seg_not_fresh hk _
  have e5 : dkSwap { st with fs := fs4 } l.gen (l.segs ++ [(l.gen, (l.next : Int))]) = ({ st with fs := fsPut fs4 ⟨fileN, Crc.seal_ (manBytes l.gen (l.segs ++ [(l.gen, (l.next : Int))])), []⟩ }, 0) :=
    swap_on (st := { st with fs := fs4 }) (hon.put _) hm r4 (by simp only; omega) (by simp only [u4, List.length_append, List.length_singleton]; push_cast; omega)
  have erun : runL (rotL l) st = ({ st with fs := fsPut fs4 ⟨fileN, Crc.seal_ (manBytes l.gen (l.segs ++ [(l.gen, (l.next : Int))])), []⟩ }, 0) := by
    unfold rotL beginF
    rw [← hn]
    rw [runL_ok (s' := { st with fs := fs1 }) e1]
    simp only [List.cons_append, List.nil_append]
    rw [runL_ok e2, runL_ok e3, runL_ok e4, ← hfs4, runL_ok e5]
    rfl
  have gman : fsGet fs4 fileN = some ⟨fileN, Crc.seal_ (manBytes l.gen l.segs), []⟩ := by
    rw [hfs4, get_put_ne (by exact hnF), hfs1, get_put_ne (by exact hLF)]; exact ho.man
  refine ⟨_, ?_, ⟨?_, ?_, ?_⟩, ?_, apart_put a4 _, f, hf, by unfold rotFs; rw [hfs4, hfs1, hn]⟩
  · unfold lgRotate
    rw [if_neg (by rw [hm]; decide), erun]; rfl
  · exact get_put_eq _ _
  · intro i hi hi'
    simp only
    by_cases hc : i < l.segs.length
    · rw [hold i hc]
      have hix : l.turn.ix[i] = l.ix[i]'(by omega) := by rw [List.getElem_of_eq (show l.turn.ix = l.ix ++ [(l.next, [])] from rfl) hi']; exact List.getElem_append_left _
      rw [hix, get_put_ne (by exact (seg_not_file hk hc).symm), hfs4, get_put_ne (by exact (hnO i hc).symm), hfs1]
      by_cases hl1 : i + 1 = l.segs.length
      · have en : nameOf l.segs[i] = l.name := by rw [name_eq h0]; congr 2; omega
        rw [en]
        refine ⟨_, get_put_eq _ _, ?_, by simp; omega, fun _ => rfl⟩
        simp only [List.append_nil]
        rw [hb, lastIx_eq (by omega)]
        have : l.ix.length - 1 = i := by omega
        simp only [this]
      · obtain ⟨g, hg1, hg2, hg3, hg4⟩ := ho.seg i hc (by omega)
        refine ⟨g, ?_, hg2, hg3, fun _ => hg4 (by omega)⟩
        rw [get_put_ne]
        · exact hg1
        · show l.name ≠ _
          rw [name_eq h0]; exact name_ne hk.may (by omega) hc (by omega)
    · have hi9 : i = l.segs.length := by omega
      subst hi9
      rw [hnt, get_put_ne (by exact hnF.symm), hfs4]
      have hix : l.turn.ix[l.segs.length] = (l.next, []) := by rw [List.getElem_of_eq (show l.turn.ix = l.ix ++ [(l.next, [])] from rfl) hi', List.getElem_append_right (by omega)]; simp
      rw [hix]
      refine ⟨_, get_put_eq _ _, ?_, by simp only; omega, fun _ => rfl⟩
      simp [segBytes, frames]
  · intro g hg
    have hmap : l.turn.segs.map nameOf = l.segs.map nameOf ++ [n] := by unfold LgSt.turn; simp [hn, nameOf]
    rw [hmap]
    rcases mem_put.1 hg with rfl | ⟨hg, _⟩
    · exact .inl rfl
    rw [hfs4] at hg
    rcases mem_put.1 hg with rfl | ⟨hg, _⟩
    · exact .inr (by simp)
    rw [hfs1] at hg
    rcases mem_put.1 hg with rfl | ⟨hg, _⟩
    · exact .inr (List.mem_append_left _ (name_mem hk))
    · exact (ho.only g hg).imp id fun h => List.mem_append_left _ h
  · have := used_old a4 (g := ⟨fileN, Crc.seal_ (manBytes l.gen (l.segs ++ [(l.gen, (l.next : Int))])), []⟩) gman
    simp only [Crc.seal_length, manBytes_length, List.length_append, List.length_singleton, List.length_nil] at this
    omega

/-- No segment but one of one frame is longer than it may be; none but the last is empty. -/
structure LgPart (l : LgSt) : Prop where
  size : ∀ i (h : i < l.ix.length), l.ix[i].2.length ≤ 1 ∨ (SgIx.good l.ix[i] : Int) ≤ l.cfg.ss
  some_ : ∀ i (h : i + 1 < l.ix.length), l.ix[i].2 ≠ []
theorem good_16 {x : SgIx} (h : x.good = 16) : x.2 = [] := by
  unfold SgIx.good at h
  rw [segBytes_length] at h
  have := frames_length_le (q := x.1) (a := x.2)
  exact List.eq_nil_of_length_eq_zero (by omega)
theorem good_nil (q : Nat) : SgIx.good (q, []) = 16 := by unfold SgIx.good; rw [segBytes_length]; rfl
theorem LgPart.add {l : LgSt} (h : LgPart l) {p : List UInt8} (hf : fitsB l.lastIx.good p.length l.cfg.ss = true ∨ l.lastIx.2 = []) : LgPart (l.add p) := by
  have key : (l.lastIx.2 ++ [p]).length ≤ 1 ∨ (SgIx.good (l.lastIx.1, l.lastIx.2 ++ [p]) : Int) ≤ l.cfg.ss := by
    rcases hf with hf | hf
    · unfold fitsB at hf
      simp only [Bool.and_eq_true, Bool.or_eq_true, decide_eq_true_eq] at hf
      rcases hf.2 with h2 | h2
      · left; rw [good_16 (by omega)]; simp
      · right; have e := good_snoc l.lastIx.1 l.lastIx.2 p; have e2 : SgIx.good (l.lastIx.1, l.lastIx.2) = l.lastIx.good := rfl; omega
    · left; rw [hf]; simp
  constructor
  · intro i hi
    by_cases h0 : l.ix.length = 0
    · have e : (l.add p).ix = [(l.lastIx.1, l.lastIx.2 ++ [p])] := by unfold LgSt.add; simp [List.eq_nil_of_length_eq_zero h0]
      simp only [e]
      have hi9 : i = 0 := by rw [e] at hi; simpa using hi
      subst hi9
      exact key
    · have hle := add_len l p (by omega)
      rw [add_get l p i hi (by omega)]
      by_cases hc : i + 1 = l.ix.length
      · rw [if_pos hc]; exact key
      · rw [if_neg hc]; exact h.size i (by omega)
  · intro i hi
    by_cases h0 : l.ix.length = 0
    · have e : (l.add p).ix = [(l.lastIx.1, l.lastIx.2 ++ [p])] := by unfold LgSt.add; simp [List.eq_nil_of_length_eq_zero h0]
      rw [e] at hi; simp at hi
    · have hle := add_len l p (by omega)
      rw [add_get l p i (by omega) (by omega)]
      by_cases hc : i + 1 = l.ix.length
      · omega
      · rw [if_neg hc]; exact h.some_ i (by omega)
theorem LgPart.turn {l : LgSt} (h : LgPart l) (hne : l.lastIx.2 ≠ []) (h0 : 0 < l.ix.length) : LgPart l.turn := by
  have e : l.turn.ix = l.ix ++ [(l.next, [])] := rfl
  have hl : l.turn.ix.length = l.ix.length + 1 := by rw [e]; simp
  constructor
  · intro i hi
    rw [List.getElem_of_eq e hi]
    by_cases hc : i < l.ix.length
    · rw [List.getElem_append_left hc]; exact h.size i hc
    · rw [List.getElem_append_right (by omega), List.getElem_singleton]; left; simp
  · intro i hi
    rw [List.getElem_of_eq e (by omega), List.getElem_append_left (by omega)]
    by_cases hc : i + 1 < l.ix.length
    · exact h.some_ i hc
    · have e2 : l.ix[i]'(by omega) = l.lastIx := by rw [lastIx_eq h0]; congr 1; omega
      rw [e2]; exact hne

/-- What an append does where there is power, and no cut to come: it does all, or nothing. -/
theorem app_on {st : DkSt} {l : LgSt} (p : List UInt8) (hon : On st) (ha : Apart st.fs) (hk : LgOk l) (ho : LgOn st l) :
    (∃ fs' l', lgAppend st l p = (({ st with fs := fs' }, l'), 0) ∧ LgOk l' ∧ LgOn { st with fs := fs' } l' ∧ l'.next = l.next + 1 ∧ l'.all = l.all ++ [p] ∧ l'.first = l.first ∧ l'.cfg = l.cfg ∧ l'.gen = l.gen ∧ (LgPart l → LgPart l')) ∨
    (∃ c, c ≠ 0 ∧ lgAppend st l p = ((st, l), c) ∧ (c = 44 → st.cap < (used st.fs : Int) + 16 + (p.length : Int) + 1200 ∨ 62 < st.fs.length)) := by
  have h0 := hk.pos
  have h1 := hk.len
  have hfew := hk.few
  have hge := good_ge l.lastIx
  have hss : 64 ≤ l.cfg.ss ∧ l.cfg.ss ≤ 65536 := by
    have hc := hk.cfg
    unfold cfgOk at hc
    simp only [Bool.and_eq_true, decide_eq_true_eq] at hc
    omega
  by_cases hp0 : p = []
  · exact .inr ⟨4, by decide, by unfold lgAppend; rw [if_pos hp0], fun h => absurd h (by decide)⟩
  have hpl : 1 ≤ p.length := by cases p with
    | nil => exact absurd rfl hp0
    | cons => simp
  by_cases hbig : 4096 < p.length ∨ 1048576 ≤ l.next
  · exact .inr ⟨40, by decide, by unfold lgAppend; rw [if_neg hp0, if_pos hbig], fun h => absurd h (by decide)⟩
  have hpay : payOk p := ⟨by omega, by omega⟩
  cases hf : fitsB l.lastIx.good p.length l.cfg.ss
  · -- another segment
    have e : lgAppend st l p = if lgRoom st l p.length true ≠ 0 then ((st, l), lgRoom st l p.length true) else if (lgRotate st l).2 ≠ 0 then lgRotate st l else lgPut (lgRotate st l).1.1 (lgRotate st l).1.2 p := by
      unfold lgAppend
      rw [if_neg hp0, if_neg hbig]
      simp only [hf, Bool.not_false, if_true]
    by_cases hr : st.cap - (used st.fs : Int) < lgNeed l p.length true ∨ 64 - (st.fs.length : Int) < 2
    · refine .inr ⟨44, by decide, ?_, fun _ => ?_⟩
      · have e2 : lgRoom st l p.length true = 44 := by unfold lgRoom; rw [hon.lit, if_neg (by decide), if_pos (by simpa using hr)]
        rw [e, e2]; rfl
      · unfold lgNeed at hr
        simp only [if_true] at hr
        omega
    · have e2 : lgRoom st l p.length true = 0 := by unfold lgRoom; rw [hon.lit, if_neg (by decide), if_neg (by simpa using hr)]
      rw [e, e2, if_neg (by simp)]
      unfold lgNeed at hr
      simp only [if_true] at hr
      cases hm : mayB l.gen (l.segs ++ [(l.gen, (l.next : Int))])
      · refine .inr ⟨4, by decide, ?_, fun h => absurd h (by decide)⟩
        have e3 : lgRotate st l = ((st, l), 4) := by unfold lgRotate; rw [if_pos hm]
        rw [e3]; rfl
      · obtain ⟨fs1, e3, ho1, hu1, ha1, _⟩ := rot_on hon ha hk ho hm (by omega) (by omega)
        have hk1 := hk.turn hm
        have hne : l.lastIx.2 ≠ [] := fun h9 => by
          have h8 : l.lastIx.good = 16 := by have := good_nil l.lastIx.1; rw [← h9] at this; exact this
          unfold fitsB at hf
          simp only [Bool.and_eq_false_iff, Bool.or_eq_false_iff, decide_eq_false_iff_not] at hf
          omega
        obtain ⟨fs2, e4, ho2⟩ := put_on (st := { st with fs := fs1 }) (l := l.turn) (p := p) (hon.put _) hk1 ho1 (by rw [turn_next]; omega) (by rw [turn_last, good_nil]; omega) (by simp only; omega)
        rw [e3]
        refine .inl ⟨fs2, l.turn.add p, ?_, hk1.add hpay (by rw [turn_next]; omega) (by rw [turn_last, good_nil]; omega), ho2, ?_, ?_, ?_, rfl, rfl, fun h => (h.turn hne (by omega)).add (.inr (by rw [turn_last]))⟩
        · rw [if_neg (by simp)]; exact e4
        · rw [add_next, turn_next]
        · rw [add_all _ _ (by rw [hk1.len]; exact hk1.pos), turn_all]
        · show ((l.segs ++ [(l.gen, (l.next : Int))]).head?.map (·.2)).getD 0 = (l.segs.head?.map (·.2)).getD 0
          cases hs : l.segs with
          | nil => rw [hs] at h0; simp at h0
          | cons a r => rfl
  · have e : lgAppend st l p = if lgRoom st l p.length false ≠ 0 then ((st, l), lgRoom st l p.length false) else lgPut st l p := by
      unfold lgAppend
      rw [if_neg hp0, if_neg hbig]
      simp only [hf, Bool.not_true, Bool.false_eq_true, if_false]
    by_cases hr : st.cap - (used st.fs : Int) < lgNeed l p.length false ∨ 64 - (st.fs.length : Int) < 0
    · refine .inr ⟨44, by decide, ?_, fun _ => ?_⟩
      · have e2 : lgRoom st l p.length false = 44 := by unfold lgRoom; rw [hon.lit, if_neg (by decide), if_pos (by simpa using hr)]
        rw [e, e2]; rfl
      · unfold lgNeed at hr
        simp only [Bool.false_eq_true, if_false] at hr
        omega
    · have e2 : lgRoom st l p.length false = 0 := by unfold lgRoom; rw [hon.lit, if_neg (by decide), if_neg (by simpa using hr)]
      rw [e, e2, if_neg (by simp)]
      unfold lgNeed at hr
      simp only [Bool.false_eq_true, if_false] at hr
      have hgd : l.lastIx.good + 16 + p.length ≤ 1048576 := by
        have hf2 := hf
        unfold fitsB at hf2
        simp only [Bool.and_eq_true, Bool.or_eq_true, decide_eq_true_eq] at hf2
        omega
      obtain ⟨fs2, e4, ho2⟩ := put_on (p := p) hon hk ho (by omega) hgd (by omega)
      exact .inl ⟨fs2, l.add p, e4, hk.add hpay (by omega) hgd, ho2, add_next _ _, add_all _ _ (by omega), rfl, rfl, rfl, fun h => h.add (.inl hf)⟩
end Go.Proofs.YtcdjckdbcffgdaaGreatDoor

/- seglog, plainly: what Init leaves on an empty disk that has power. -/
namespace Go.Proofs.YtcdjckdbcffgdaaGreatDoor

/-- A new log. -/
def newL (c : Cfg) (q : Nat) : LgSt := ⟨c, 0, [(0, (q : Int))], [(q, [])]⟩
theorem newL_may {q : Nat} (hq : q ≤ 1048576) : mayB 0 [(0, (q : Int))] = true := by
  unfold mayB segsOk segsOk
  simp
  omega
theorem newL_ok {c : Cfg} (hc : cfgOk c = true) {q : Nat} (hq : q ≤ 1048576) : LgOk (newL c q) where
  cfg := hc
  may := newL_may hq
  len := rfl
  each := fun i h h' => by
    obtain rfl : i = 0 := by simp [newL] at h; exact h
    refine ⟨rfl, trivial, ?_⟩
    show SgIx.good (q, []) ≤ 1048576
    rw [good_nil]; decide
  row := fun i h => by
    have h1 : i + 1 < 1 := h
    omega
  top := by show q + 0 ≤ 1048576; omega
theorem newL_part (c : Cfg) (q : Nat) : LgPart (newL c q) where
  size := fun i h => by
    have h1 : i < 1 := h
    obtain rfl : i = 0 := by omega
    exact .inl (Nat.zero_le _)
  some_ := fun i h => by
    have h1 : i + 1 < 1 := h
    omega
theorem newL_next (c : Cfg) (q : Nat) : (newL c q).next = q := rfl
/-- The two files of a new log. -/
def newFs (q : Nat) : Fs := fsPut [⟨segName 0 (q : Int), segHead q, []⟩] ⟨fileN, Crc.seal_ (manBytes 0 [(0, (q : Int))]), []⟩
theorem newFs_on {st : DkSt} (c : Cfg) {q : Nat} (hq : q ≤ 1048576) : LgOn { st with fs := newFs q } (newL c q) := by
  have hnF : segName 0 (q : Int) ≠ fileN := fun e => segName_not_M (a := 0) (f := q) (by decide) hq _ e
  refine ⟨get_put_eq ⟨fileN, Crc.seal_ (manBytes 0 [(0, (q : Int))]), []⟩ _, fun i h h' => ?_, fun f hf => ?_⟩
  · obtain rfl : i = 0 := by simp [newL] at h; exact h
    refine ⟨⟨segName 0 (q : Int), segHead q, []⟩, ?_, ?_, ?_, fun _ => rfl⟩
    · show fsGet (newFs q) (segName 0 (q : Int)) = _
      unfold newFs
      rw [get_put_ne (by exact hnF.symm)]
      exact get_cons_eq
    · show segHead q ++ [] = segBytes q []
      simp [segBytes, frames]
    · show 16 ≤ (segHead q).length
      rw [segHead_length]; omega
  · rcases mem_put.1 hf with rfl | ⟨hf, _⟩
    · exact .inl rfl
    · rw [List.mem_singleton] at hf
      subst hf
      exact .inr (by simp [newL, nameOf])
theorem newFs_apart (q : Nat) : Apart (newFs q) := apart_put (List.pairwise_singleton _ _) _

theorem init_on {st : DkSt} (hon : On st) (hfs : st.fs = []) {c : Cfg} (hc : cfgOk c = true) {q : Nat} (hq : q ≤ 1048576) :
    lgInit st (q : Int) c = ({ st with fs := newFs q }, 0, some (newL c q)) ∨ lgInit st (q : Int) c = (st, 44, none) := by
  have hnum : numberB (q : Int) = true := by unfold numberB; simp; omega
  obtain ⟨fs, cap, left, dark⟩ := st
  obtain ⟨hl, hf⟩ := hon
  simp only at hfs hl hf
  subst hfs hl hf
  obtain ⟨n, hn⟩ : ∃ n, n = segName 0 (q : Int) := ⟨_, rfl⟩
  have hmay : mayName n = true := by rw [hn]; exact segName_may (a := 0) (by decide) hq
  have hnF : n ≠ fileN := by rw [hn]; exact fun e => segName_not_M (a := 0) (f := q) (by decide) hq _ e
  have hnR : n ≠ freshN := by rw [hn]; exact fun e => segName_not_M (a := 0) (f := q) (by decide) hq _ e
  have on_ : ∀ fs', On ⟨fs', cap, -1, false⟩ := fun _ => ⟨rfl, rfl⟩
  have e1 : dkCreate ⟨[], cap, -1, false⟩ n = (⟨[⟨n, [], []⟩], cap, -1, false⟩, 0) := create_on (on_ []) hmay rfl (by simp)
  have del1 : ∀ f : FileS, f.name = n → dkDelete ⟨[f], cap, -1, false⟩ n = (⟨[], cap, -1, false⟩, 0) := fun f hfn => by
    have hg : fsGet [f] n = some f := by rw [← hfn]; exact get_cons_eq
    rw [delete_on (st := ⟨[f], cap, -1, false⟩) (on_ _) hg]
    have : fsDel [f] n = [] := by unfold fsDel; rw [List.filter_cons, show (f.name == n) = true from by simp [hfn]]; rfl
    simp only [this]
  have hput : ∀ (f g : FileS), f.name = n → g.name = n → fsPut [f] g = [g] := fun f g hf hg => by
    unfold fsPut
    have : fsDel [f] g.name = [] := by unfold fsDel; rw [List.filter_cons, show (f.name == g.name) = true from by simp [hf, hg]]; rfl
    rw [this]; rfl
  have key : runL (initF ⟨[], cap, -1, false⟩ q) ⟨[], cap, -1, false⟩ = (⟨newFs q, cap, -1, false⟩, 0) ∨ runL (initF ⟨[], cap, -1, false⟩ q) ⟨[], cap, -1, false⟩ = (⟨[], cap, -1, false⟩, 44) := by
    unfold initF beginF
    rw [← hn]
    simp only [List.map_nil, List.nil_append, List.cons_append]
    rw [runL_ok e1]
    by_cases h16 : (16 : Int) ≤ cap
    · have e2 : unlessF n (fun st => dkAppend st n (segHead q)) ⟨[⟨n, [], []⟩], cap, -1, false⟩ = (⟨[⟨n, [], segHead q⟩], cap, -1, false⟩, 0) := by
        have ea := append_on (st := ⟨[⟨n, [], []⟩], cap, -1, false⟩) (x := segHead q) (f := ⟨n, [], []⟩) (on_ _) get_cons_eq (by rw [segHead_length]; simp) (by rw [segHead_length]; simp [used]; omega)
        simp only [List.nil_append] at ea
        rw [hput ⟨n, [], []⟩ ⟨n, [], segHead q⟩ rfl rfl] at ea
        unfold unlessF
        simp only [ea]
        rw [if_neg (by simp)]
      have e3 : dkSync ⟨[⟨n, [], segHead q⟩], cap, -1, false⟩ n = (⟨[⟨n, segHead q, []⟩], cap, -1, false⟩, 0) := by
        have es := sync_on (st := ⟨[⟨n, [], segHead q⟩], cap, -1, false⟩) (f := ⟨n, [], segHead q⟩) (on_ _) get_cons_eq
        simp only [List.nil_append] at es
        rw [hput ⟨n, [], segHead q⟩ ⟨n, segHead q, []⟩ rfl rfl] at es
        exact es
      rw [runL_ok e2, runL_ok e3]
      have hfr : fsGet [(⟨n, segHead q, []⟩ : FileS)] freshN = none := by rw [get_cons_ne (by exact hnR)]; rfl
      have hu : used [(⟨n, segHead q, []⟩ : FileS)] = 16 := by simp [used, segHead_length]
      by_cases h50 : (50 : Int) ≤ cap
      · left
        have e4 := swap_on (st := ⟨[⟨n, segHead q, []⟩], cap, -1, false⟩) (on_ _) (newL_may hq) hfr (by simp) (by simp only [hu]; simp; omega)
        have e5 : unlessF n (fun st => dkSwap st 0 [(0, (q : Int))]) ⟨[⟨n, segHead q, []⟩], cap, -1, false⟩ = (⟨newFs q, cap, -1, false⟩, 0) := by
          unfold unlessF
          simp only [e4]
          rw [if_neg (by simp)]
          unfold newFs
          rw [← hn]
        rw [runL_ok e5]; rfl
      · right
        have hnof : noFresh ⟨[⟨n, segHead q, []⟩], cap, -1, false⟩ = ⟨[⟨n, segHead q, []⟩], cap, -1, false⟩ := by
          unfold noFresh
          simp only [del_none hfr]
        have e4 := (swap_room ⟨[⟨n, segHead q, []⟩], cap, -1, false⟩ rfl rfl 0 [(0, (q : Int))] (newL_may hq)).2 (fun h => by
          unfold roomFor at h
          rw [hnof] at h
          have h1 := h.1
          simp only [hu, List.length_singleton] at h1
          omega)
        rw [hnof] at e4
        have e5 : unlessF n (fun st => dkSwap st 0 [(0, (q : Int))]) ⟨[⟨n, segHead q, []⟩], cap, -1, false⟩ = (⟨[], cap, -1, false⟩, 44) := by
          unfold unlessF
          simp only [e4]
          rw [del1 ⟨n, segHead q, []⟩ rfl]
          simp
        rw [runL_no (by rw [e5]; simp), e5]
    · right
      have ea : dkAppend ⟨[⟨n, [], []⟩], cap, -1, false⟩ n (segHead q) = (⟨[⟨n, [], []⟩], cap, -1, false⟩, 44) := by
        have hg : fsGet [(⟨n, [], []⟩ : FileS)] n = some ⟨n, [], []⟩ := get_cons_eq
        unfold dkAppend
        simp only [hg, Bool.false_eq_true, if_false]
        rw [if_pos (.inr (by rw [segHead_length]; simp [used]; omega))]
      have e2 : unlessF n (fun st => dkAppend st n (segHead q)) ⟨[⟨n, [], []⟩], cap, -1, false⟩ = (⟨[], cap, -1, false⟩, 44) := by
        unfold unlessF
        simp only [ea]
        rw [del1 ⟨n, [], []⟩ rfl]
        simp
      rw [runL_no (by rw [e2]; simp), e2]
  have hu : lgInit ⟨[], cap, -1, false⟩ (q : Int) c = if (runL (initF ⟨[], cap, -1, false⟩ q) ⟨[], cap, -1, false⟩).2 ≠ 0 then ((runL (initF ⟨[], cap, -1, false⟩ q) ⟨[], cap, -1, false⟩).1, (runL (initF ⟨[], cap, -1, false⟩ q) ⟨[], cap, -1, false⟩).2, none) else ((runL (initF ⟨[], cap, -1, false⟩ q) ⟨[], cap, -1, false⟩).1, 0, some (newL c q)) := by
    unfold lgInit
    rw [if_neg (by rw [hc, hnum]; simp), if_neg (by simp), if_neg (by simp [fsGet])]
    simp only [Int.toNat_natCast]
    rfl
  rw [hu]
  rcases key with e | e
  · left; rw [e]; rfl
  · right; rw [e]; rfl
theorem initF_no {st : DkSt} {q : Int} {c : Cfg} (h : cfgOk c = false) : lgInit st q c = (st, 1, none) := by unfold lgInit; rw [if_pos (.inl h)]
end Go.Proofs.YtcdjckdbcffgdaaGreatDoor
