/- seglog, plainly: appends and syncs wherever the power goes. -/
import Derived.Test.YtcdjckdbcffgdaaGreatDoorMDe
import Derived.Test.YtcdjckdbcffgdaaGreatDoorMBe
namespace Go.Proofs.YtcdjckdbcffgdaaGreatDoor

/-- How a rotation ends that has room. -/
def RotCut (st : DkSt) (l : LgSt) (S : Nat) (f : FileS) : Prop :=
  (∃ left', lgRotate st l = (({ st with left := left', fs := rotFs st.fs l f }, l.turn), 0)) ∨
  ((lgRotate st l).2 = 45 ∧ (lgRotate st l).1.1.dark = true ∧ (lgRotate st l).1.2 = l ∧ Kp (lgRotate st l).1.1.fs l [] S)

set_option maxHeartbeats 2000000 in
theorem rot_cut {st : DkSt} {l : LgSt} {S : Nat} (hd : st.dark = false) (ha : Apart st.fs) (hk : LgOk l) (ho : LgOn st l) (hkp : Kp st.fs l [] S) (hm : mayB l.gen (l.segs ++ [(l.gen, (l.next : Int))]) = true) (hu : (used st.fs : Int) + 50 + 16 * (l.segs.length : Int) ≤ st.cap) (hfl : st.fs.length + 2 ≤ 64) {f : FileS} (hf : fsGet st.fs l.name = some f) :
    RotCut st l S f := by
  have h0 := hk.pos
  have h1 := hk.len
  have hkt := hk.turn hm
  have htl : l.turn.segs.length = l.segs.length + 1 := by unfold LgSt.turn; simp
  have htn : l.turn.segs[l.segs.length]'(by omega) = (l.gen, (l.next : Int)) := by unfold LgSt.turn; simp
  have hold : ∀ i (hi : i < l.segs.length), l.turn.segs[i]'(by omega) = l.segs[i] := fun i hi => by unfold LgSt.turn; simp [List.getElem_append_left hi]
  obtain ⟨n, hn⟩ : ∃ n, n = segName l.gen (l.next : Int) := ⟨_, rfl⟩
  have hnt : nameOf (l.turn.segs[l.segs.length]'(by omega)) = n := by rw [htn, hn]; rfl
  have hnS : isSeg n := by rw [← hnt]; exact seg_is hkt (seg_mem _)
  have hnR : n ≠ freshN := fun e => not_seg_fresh (e ▸ hnS)
  have hnF : n ≠ fileN := fun e => not_seg_file (e ▸ hnS)
  have hnO : n ∉ l.segs.map nameOf := fun h => by
    obtain ⟨x, hx, e⟩ := List.mem_map.1 h
    obtain ⟨i, hi, rfl⟩ := List.getElem_of_mem hx
    have := name_ne (i := i) (j := l.segs.length) hkt.may (by omega) (by omega) (by omega)
    rw [hold i hi, hnt] at this; exact this e
  have hnM : mayName n = true := by
    obtain ⟨a, b, g1, g2, e⟩ := hnS
    rw [e]; exact segName_may g1 g2
  have hgn : fsGet st.fs n = none := get_none fun g hg => by
    rcases ho.only g hg with h | h
    · rw [h]; exact hnF.symm
    · exact fun e => hnO (e ▸ h)
  have hLN : l.name ≠ n := fun e => hnO (e ▸ name_mem hk)
  have hfr := fresh_none hk ho
  have hl := segHead_length l.next
  -- where it stops
  have stop : ∀ {r : List (DkSt → DkSt × Int)} {st' : DkSt} {F : DkSt → DkSt × Int} {L : List (DkSt → DkSt × Int)}, runL (rotL l) st = runL (F :: L) st' → (F st').2 = 45 → (F st').1.dark = true → Kp (F st').1.fs l [] S → RotCut st l S f := by
    intro _ st' F L e h45 hdk hK
    have e2 : runL (rotL l) st = F st' := by rw [e, runL_no (by rw [h45]; decide)]
    right
    have e3 : lgRotate st l = (((F st').1, l), 45) := by
      unfold lgRotate
      rw [if_neg (by rw [hm]; decide), e2, if_pos (by rw [h45]; decide), h45]
    rw [e3]; exact ⟨rfl, hdk, rfl, hK⟩
  have r0 : runL (rotL l) st = runL ((fun st => lgSync st l) :: (beginF n (segHead l.next) ++ [fun st => dkSwap st l.gen (l.segs ++ [(l.gen, (l.next : Int))])])) st := by rw [hn]; rfl
  -- Sync
  obtain ⟨fs1, hfs1⟩ : ∃ x, x = fsPut st.fs ⟨l.name, f.firm ++ f.pend, []⟩ := ⟨_, rfl⟩
  have k1 : Kp fs1 l [] S := by rw [hfs1]; exact hkp.synced hk hf
  have a1 : Apart fs1 := by rw [hfs1]; exact apart_put ha _
  have u1 : used fs1 = used st.fs := by have := used_old ha (g := ⟨l.name, f.firm ++ f.pend, []⟩) hf; rw [← hfs1] at this; simp at this; omega
  have n1 : fs1.length = st.fs.length := by rw [hfs1]; exact len_old ha (g := ⟨l.name, f.firm ++ f.pend, []⟩) hf
  have g1 : fsGet fs1 n = none := by rw [hfs1, get_put_ne (by exact hLN)]; exact hgn
  have c1 : Cutd st fs1 (lgSync st l) := by rw [hfs1]; exact sync_cut hd hf
  rcases c1 with e1 | ⟨h45, hdk, hF⟩
  rotate_left
  · exact stop (r := []) r0 h45 hdk (by rcases hF with h | h <;> rw [h]; exact hkp; exact k1)
  obtain ⟨s1, hs1⟩ : ∃ x : DkSt, x = { st with left := dec st.left, fs := fs1 } := ⟨_, rfl⟩
  rw [← hs1] at e1
  have d1 : s1.dark = false := by rw [hs1]; exact hd
  have q1 : s1.fs = fs1 := by rw [hs1]
  have p1 : s1.cap = st.cap := by rw [hs1]
  have r1 : runL (rotL l) st = runL (beginF n (segHead l.next) ++ [fun st => dkSwap st l.gen (l.segs ++ [(l.gen, (l.next : Int))])]) s1 := r0.trans (runL_ok e1)
  -- Create
  have c2 : Cutd s1 (fsPut s1.fs ⟨n, [], []⟩) (dkCreate s1 n) := create_cut d1 hnM (by rw [q1]; exact g1) (by rw [q1]; omega)
  have k2 : Kp (fsPut s1.fs ⟨n, [], []⟩) l [] S := by rw [q1]; exact k1.other hk hnS hnO _ _
  rcases c2 with e2 | ⟨h45, hdk, hF⟩
  rotate_left
  · exact stop (r := []) r1 h45 hdk (by rcases hF with h | h <;> rw [h]; rw [q1]; exact k1; exact k2)
  obtain ⟨s2, hs2⟩ : ∃ x : DkSt, x = { s1 with left := dec s1.left, fs := fsPut s1.fs ⟨n, [], []⟩ } := ⟨_, rfl⟩
  rw [← hs2] at e2
  have d2 : s2.dark = false := by rw [hs2]; exact d1
  have q2 : s2.fs = fsPut fs1 ⟨n, [], []⟩ := by rw [hs2, q1]
  have p2 : s2.cap = st.cap := by rw [hs2]; exact p1
  have u2 : used s2.fs = used fs1 := by rw [q2, used_new g1]; simp
  have r2 : runL (rotL l) st = runL (unlessF n (fun st => dkAppend st n (segHead l.next)) :: (fun st => dkSync st n) :: [fun st => dkSwap st l.gen (l.segs ++ [(l.gen, (l.next : Int))])]) s2 := r1.trans (runL_ok e2)
  -- Append
  have g2 : fsGet s2.fs n = some ⟨n, [], []⟩ := by rw [q2]; exact get_put_eq ⟨n, [], []⟩ _
  have c3 : Cutd s2 (fsPut s2.fs ⟨n, [], segHead l.next⟩) (dkAppend s2 n (segHead l.next)) := append_cut (x := segHead l.next) d2 g2 (by simp; omega) (by rw [u2, p2]; omega)
  have k2' : Kp s2.fs l [] S := by rw [q2]; rw [q1] at k2; exact k2
  have q3 : fsPut s2.fs ⟨n, [], segHead l.next⟩ = fsPut fs1 ⟨n, [], segHead l.next⟩ := by rw [q2]; exact put_put (f := ⟨n, [], []⟩) (g := ⟨n, [], segHead l.next⟩) rfl
  have k3 : Kp (fsPut s2.fs ⟨n, [], segHead l.next⟩) l [] S := k2'.other hk hnS hnO _ _
  have un : ∀ st', (dkAppend st' n (segHead l.next)).2 ≠ 44 → unlessF n (fun st => dkAppend st n (segHead l.next)) st' = dkAppend st' n (segHead l.next) := fun st' h => by unfold unlessF; rw [if_neg h]
  rcases c3 with e3 | ⟨h45, hdk, hF⟩
  rotate_left
  · refine stop (r := []) r2 ?_ ?_ ?_
    · rw [un _ (by rw [h45]; decide)]; exact h45
    · rw [un _ (by rw [h45]; decide)]; exact hdk
    · rw [un _ (by rw [h45]; decide)]
      rcases hF with h | h <;> rw [h]
      · exact k2'
      · exact k3
  obtain ⟨s3, hs3⟩ : ∃ x : DkSt, x = { s2 with left := dec s2.left, fs := fsPut s2.fs ⟨n, [], segHead l.next⟩ } := ⟨_, rfl⟩
  rw [← hs3] at e3
  have e3' : unlessF n (fun st => dkAppend st n (segHead l.next)) s2 = (s3, 0) := by rw [un _ (by rw [e3]; show (0 : Int) ≠ 44; decide), e3]
  have d3 : s3.dark = false := by rw [hs3]; exact d2
  have q3' : s3.fs = fsPut fs1 ⟨n, [], segHead l.next⟩ := by rw [hs3]; exact q3
  have p3 : s3.cap = st.cap := by rw [hs3]; exact p2
  have k3' : Kp s3.fs l [] S := by rw [hs3]; exact k3
  have r3 : runL (rotL l) st = runL ((fun st => dkSync st n) :: [fun st => dkSwap st l.gen (l.segs ++ [(l.gen, (l.next : Int))])]) s3 := r2.trans (runL_ok e3')
  -- Sync
  have g3 : fsGet s3.fs n = some ⟨n, [], segHead l.next⟩ := by rw [q3']; exact get_put_eq ⟨n, [], segHead l.next⟩ _
  have c4 : Cutd s3 (fsPut s3.fs ⟨n, [] ++ segHead l.next, []⟩) (dkSync s3 n) := sync_cut d3 g3
  have k4 : Kp (fsPut s3.fs ⟨n, [] ++ segHead l.next, []⟩) l [] S := k3'.other hk hnS hnO _ _
  rcases c4 with e4 | ⟨h45, hdk, hF⟩
  rotate_left
  · exact stop (r := []) r3 h45 hdk (by rcases hF with h | h <;> rw [h]; exact k3'; exact k4)
  obtain ⟨s4, hs4⟩ : ∃ x : DkSt, x = { s3 with left := dec s3.left, fs := fsPut s3.fs ⟨n, [] ++ segHead l.next, []⟩ } := ⟨_, rfl⟩
  rw [← hs4] at e4
  have d4 : s4.dark = false := by rw [hs4]; exact d3
  have q4 : s4.fs = fsPut fs1 ⟨n, segHead l.next, []⟩ := by rw [hs4]; simp only [q3', List.nil_append]; exact put_put (f := ⟨n, [], segHead l.next⟩) (g := ⟨n, segHead l.next, []⟩) rfl
  have p4 : s4.cap = st.cap := by rw [hs4]; exact p3
  have k4' : Kp s4.fs l [] S := by rw [hs4]; exact k4
  have r4 : runL (rotL l) st = runL [fun st => dkSwap st l.gen (l.segs ++ [(l.gen, (l.next : Int))])] s4 := r3.trans (runL_ok e4)
  -- Swap
  have u4 : used s4.fs = used st.fs + 16 := by rw [q4, used_new (by exact g1)]; simp; omega
  have n4 : s4.fs.length = st.fs.length + 1 := by rw [q4, len_new (by exact g1)]; omega
  have fr4 : fsGet s4.fs freshN = none := by
    rw [q4, get_put_ne (by exact hnR), hfs1, get_put_ne]
    · exact hfr
    · show l.name ≠ freshN
      exact fun e => not_seg_fresh (e ▸ seg_is hk (name_mem hk))
  rcases swap_cut d4 hm fr4 (by omega) (by rw [u4, p4]; simp only [List.length_append, List.length_singleton]; push_cast; omega) with ⟨left', e5⟩ | ⟨h45, hdk, hsw⟩
  rotate_left
  · exact stop (r := []) r4 h45 hdk (k4'.swkeep hk hsw)
  left
  refine ⟨left', ?_⟩
  have e6 : runL (rotL l) st = ({ st with left := left', fs := rotFs st.fs l f }, 0) := by
    rw [r4, runL_ok e5, q4, hs4, hs3, hs2, hs1, hfs1]
    unfold rotFs
    rw [hn]; rfl
  unfold lgRotate
  rw [if_neg (by rw [hm]; decide), e6]; rfl

/-- How a payload's frame is put behind the others. -/
theorem put_cut {st : DkSt} {l : LgSt} {p : List UInt8} {S : Nat} (hd : st.dark = false) (hk : LgOk l) (ho : LgOn st l) (hfl : Floor st.fs l S) (hn : l.next < 1048576) (hg : l.lastIx.good + 16 + p.length ≤ 1048576) (hu : (used st.fs : Int) + (16 + (p.length : Int)) ≤ st.cap) :
    (∃ st', lgPut st l p = ((st', l.add p), 0) ∧ st'.dark = false ∧ LgOn st' (l.add p) ∧ Floor st'.fs (l.add p) S) ∨
    ((lgPut st l p).2 = 45 ∧ (lgPut st l p).1.1.dark = true ∧ ∃ x, (x = [] ∨ x = [p]) ∧ Kp (lgPut st l p).1.1.fs l x S) := by
  have h0 := hk.pos
  have h1 := hk.len
  obtain ⟨f, m, hf, hm1, hm2, hm3⟩ := hfl
  obtain ⟨f', hf', hb, h16⟩ := ho.last hk
  rw [hf] at hf'
  obtain rfl := Option.some.inj hf'
  have hgl : f.firm.length + f.pend.length = l.lastIx.good := by unfold SgIx.good; rw [← hb, List.length_append]
  have hon0 : On { st with left := -1 } := ⟨hd, rfl⟩
  obtain ⟨fs', e0, ho0⟩ := put_on (st := { st with left := -1 }) (p := p) hon0 hk ⟨ho.man, ho.seg, ho.only⟩ hn hg hu
  have c : Cutd st (fsPut st.fs ⟨l.name, f.firm, f.pend ++ frBytes l.next p⟩) (dkAppend st l.name (frBytes l.next p)) := append_cut hd hf (by rw [frBytes_length]; omega) (by rw [frBytes_length]; push_cast; omega)
  have hkp : Kp st.fs l [] S := kp_lit hk ho ⟨f, m, hf, hm1, hm2, hm3⟩
  have hfs : fs' = fsPut st.fs ⟨l.name, f.firm, f.pend ++ frBytes l.next p⟩ := by
    have e9 := append_on (st := { st with left := -1 }) (x := frBytes l.next p) hon0 hf (by rw [frBytes_length]; omega) (by rw [frBytes_length]; push_cast; omega)
    unfold lgPut at e0
    simp only [e9] at e0
    simp at e0
    exact e0.symm
  rcases c with e | ⟨h45, hdk, hF⟩
  · left
    refine ⟨{ st with left := dec st.left, fs := fsPut st.fs ⟨l.name, f.firm, f.pend ++ frBytes l.next p⟩ }, by unfold lgPut; simp [e], hd, by rw [← hfs]; exact ⟨ho0.man, ho0.seg, ho0.only⟩, ?_⟩
    refine ⟨_, m, get_put_eq ⟨l.name, f.firm, f.pend ++ frBytes l.next p⟩ _, ?_, ?_, ?_⟩
    · rw [add_last]; simp; omega
    · rw [add_last]; exact hm2
    · rw [add_last]; simp only; rw [List.take_append_of_le_length hm1]; exact hm3
  · right
    have e2 : lgPut st l p = (((dkAppend st l.name (frBytes l.next p)).1, l), 45) := by unfold lgPut; simp [h45]
    rw [e2]
    refine ⟨rfl, hdk, ?_⟩
    rcases hF with h | h
    · exact ⟨[], .inl rfl, by simp only; rw [h]; exact hkp⟩
    · refine ⟨[p], .inr rfl, ?_⟩
      simp only
      rw [h]
      refine ⟨?_, fun i hi hi' => ?_, ?_, fun g hg => ?_⟩
      · rw [get_put_ne (by exact name_not_file hk)]; exact hkp.man
      · rw [get_put_ne]
        · exact hkp.mid i hi hi'
        · show l.name ≠ _
          rw [name_eq h0]; exact name_ne hk.may (by omega) (by omega) (by omega)
      · refine ⟨_, m, get_put_eq ⟨l.name, f.firm, f.pend ++ frBytes l.next p⟩ _, ?_, hm1, hm2, hm3⟩
        show f.firm ++ (f.pend ++ frBytes l.next p) = _
        rw [segBytes_snoc, ← List.append_assoc, hb]; rfl
      · rcases mem_put.1 hg with rfl | ⟨hg, _⟩
        · exact .inr (.inr (seg_is hk (name_mem hk)))
        · exact hkp.only g hg

/-- What a log is in while there is power. -/
structure Lit (st : DkSt) (l : LgSt) (S : Nat) : Prop where
  lit : st.dark = false
  ok : LgOk l
  on : LgOn st l
  floor : Floor st.fs l S
/-- .. behind the power: all are the batches, p the one that was on its way. -/
def Dark (st : DkSt) (c : Cfg) (all : List (List UInt8)) (p : List UInt8) (S : Nat) : Prop :=
  ∃ l x, Kp st.fs l x S ∧ LgOk l ∧ l.cfg = c ∧ l.first = 0 ∧ l.all = all ∧ (x = [] ∨ x = [p]) ∧ frOk l.lastIx.1 (l.lastIx.2 ++ x) ∧ SgIx.good (l.lastIx.1, l.lastIx.2 ++ x) ≤ 1048576

theorem turn_first (l : LgSt) (h0 : 0 < l.segs.length) : l.turn.first = l.first := by
  show ((l.segs ++ [(l.gen, (l.next : Int))]).head?.map (·.2)).getD 0 = (l.segs.head?.map (·.2)).getD 0
  cases hs : l.segs with
  | nil => rw [hs] at h0; simp at h0
  | cons a r => rfl
theorem dark_of {st : DkSt} {l : LgSt} {S : Nat} (hk : LgOk l) (hf : l.first = 0) (p : List UInt8) (h : Kp st.fs l [] S) : Dark st l.cfg l.all p S := by
  have hl := hk.last
  exact ⟨l, [], h, hk, rfl, hf, rfl, .inl rfl, by rw [List.append_nil]; exact hl.1, by rw [List.append_nil]; exact hl.2.1⟩
/-- .. of a payload that was put behind. -/
theorem dark_put {st : DkSt} {l : LgSt} {S : Nat} (hk : LgOk l) (hf : l.first = 0) {p : List UInt8} (hp : payOk p) (hn : l.next < 1048576) (hg : l.lastIx.good + 16 + p.length ≤ 1048576) {x : List (List UInt8)} (hx : x = [] ∨ x = [p]) (h : Kp st.fs l x S) : Dark st l.cfg l.all p S := by
  have hl := hk.last
  rcases hx with rfl | rfl
  · exact dark_of hk hf p h
  · refine ⟨l, [p], h, hk, rfl, hf, rfl, .inr rfl, ?_, ?_⟩
    · rw [frOk_append]
      exact ⟨hl.1, hp, by have : l.next = l.lastIx.1 + l.lastIx.2.length := rfl; omega, trivial⟩
    · have e := good_snoc l.lastIx.1 l.lastIx.2 p
      have e2 : SgIx.good (l.lastIx.1, l.lastIx.2) = l.lastIx.good := rfl
      omega

/-- An append, wherever the power goes. -/
theorem app_cut {st : DkSt} {l : LgSt} {S : Nat} (p : List UInt8) (ha : Apart st.fs) (h : Lit st l S) (hf0 : l.first = 0) :
    (∃ st' l', lgAppend st l p = ((st', l'), 0) ∧ Lit st' l' S ∧ l'.next = l.next + 1 ∧ l'.all = l.all ++ [p] ∧ l'.first = 0 ∧ l'.cfg = l.cfg) ∨
    (∃ c, c ≠ 0 ∧ c ≠ 45 ∧ lgAppend st l p = ((st, l), c)) ∨
    (p ≠ [] ∧ (lgAppend st l p).2 = 45 ∧ (lgAppend st l p).1.1.dark = true ∧ Dark (lgAppend st l p).1.1 l.cfg l.all p S) := by
  obtain ⟨hd, hk, ho, hfl⟩ := h
  have h0 := hk.pos
  have h1 := hk.len
  have hfew := hk.few
  have hge := good_ge l.lastIx
  have hss : 64 ≤ l.cfg.ss ∧ l.cfg.ss ≤ 65536 := by
    have hc := hk.cfg
    unfold cfgOk at hc
    simp only [Bool.and_eq_true, decide_eq_true_eq] at hc
    omega
  by_cases hp0 : p = []
  · exact .inr (.inl ⟨4, by decide, fun h => absurd h (by decide), by unfold lgAppend; rw [if_pos hp0]⟩)
  have hpl : 1 ≤ p.length := by cases p with
    | nil => exact absurd rfl hp0
    | cons => simp
  by_cases hbig : 4096 < p.length ∨ 1048576 ≤ l.next
  · exact .inr (.inl ⟨40, by decide, fun h => absurd h (by decide), by unfold lgAppend; rw [if_neg hp0, if_pos hbig]⟩)
  have hpay : payOk p := ⟨by omega, by omega⟩
  cases hf : fitsB l.lastIx.good p.length l.cfg.ss
  · have e : lgAppend st l p = if lgRoom st l p.length true ≠ 0 then ((st, l), lgRoom st l p.length true) else if (lgRotate st l).2 ≠ 0 then lgRotate st l else lgPut (lgRotate st l).1.1 (lgRotate st l).1.2 p := by
      unfold lgAppend
      rw [if_neg hp0, if_neg hbig]
      simp only [hf, Bool.not_false, if_true]
    by_cases hr : st.cap - (used st.fs : Int) < lgNeed l p.length true ∨ 64 - (st.fs.length : Int) < 2
    · refine .inr (.inl ⟨44, by decide, by decide, ?_⟩)
      have e2 : lgRoom st l p.length true = 44 := by unfold lgRoom; rw [hd, if_neg (by decide), if_pos (by simpa using hr)]
      rw [e, e2]; rfl
    · have e2 : lgRoom st l p.length true = 0 := by unfold lgRoom; rw [hd, if_neg (by decide), if_neg (by simpa using hr)]
      rw [e, e2, if_neg (by simp)]
      unfold lgNeed at hr
      simp only [if_true] at hr
      cases hm : mayB l.gen (l.segs ++ [(l.gen, (l.next : Int))])
      · refine .inr (.inl ⟨4, by decide, by decide, ?_⟩)
        have e3 : lgRotate st l = ((st, l), 4) := by unfold lgRotate; rw [if_pos hm]
        rw [e3]; rfl
      · have hon0 : On { st with left := -1 } := ⟨hd, rfl⟩
        obtain ⟨fs1, _, ho1, hu1, ha1, f, hf1, hfs1⟩ := rot_on (st := { st with left := -1 }) (l := l) hon0 ha hk ⟨ho.man, ho.seg, ho.only⟩ hm (by simp only; omega) (by simp only; omega)
        have hk1 := hk.turn hm
        have hkp : Kp st.fs l [] S := kp_lit hk ho hfl
        rcases rot_cut hd ha hk ho hkp hm (by omega) (by omega) hf1 with ⟨left', e3⟩ | ⟨h45, hdk, hll, hK⟩
        · rw [e3, if_neg (by simp)]
          have ho1' : LgOn { st with left := left', fs := rotFs st.fs l f } l.turn := by rw [hfs1] at ho1; exact ⟨ho1.man, ho1.seg, ho1.only⟩
          have hSn : S ≤ l.next := by
            obtain ⟨_, m, _, h2, h3, _⟩ := hfl
            have : l.next = l.lastIx.1 + l.lastIx.2.length := rfl
            omega
          have hfl1 : Floor (rotFs st.fs l f) l.turn S := by
            have htl : l.turn.segs.length = l.segs.length + 1 := by unfold LgSt.turn; simp
            refine ⟨⟨segName l.gen (l.next : Int), segHead l.next, []⟩, 0, ?_, Nat.zero_le _, by rw [turn_last]; exact hSn, ?_⟩
            · rw [turn_name]
              unfold rotFs
              rw [get_put_ne]
              · exact get_put_eq ⟨segName l.gen (l.next : Int), segHead l.next, []⟩ _
              · show fileN ≠ segName l.gen (l.next : Int)
                rw [← turn_name]; exact (name_not_file hk1).symm
            · rw [turn_last]; simp [segBytes, frames]
          have hu2 : (used (rotFs st.fs l f) : Int) + (16 + (p.length : Int)) ≤ st.cap := by rw [← hfs1]; have : used fs1 ≤ used st.fs + 32 := hu1; omega
          rcases put_cut (st := { st with left := left', fs := rotFs st.fs l f }) (p := p) hd hk1 ho1' hfl1 (by rw [turn_next]; omega) (by rw [turn_last, good_nil]; omega) hu2 with ⟨st', e4, hd4, ho4, hf4⟩ | ⟨h45, hdk, x, hx, hK⟩
          · refine .inl ⟨st', l.turn.add p, e4, ⟨hd4, hk1.add hpay (by rw [turn_next]; omega) (by rw [turn_last, good_nil]; omega), ho4, hf4⟩, ?_, ?_, ?_, rfl⟩
            · rw [add_next, turn_next]
            · rw [add_all _ _ (by rw [hk1.len]; exact hk1.pos), turn_all]
            · exact (turn_first l h0).trans hf0
          · refine .inr (.inr ⟨hp0, h45, hdk, ?_⟩)
            have := dark_put hk1 ((turn_first l h0).trans hf0) hpay (by rw [turn_next]; omega) (by rw [turn_last, good_nil]; omega) hx hK
            rw [turn_all] at this
            exact this
        · rw [if_pos (by rw [h45]; decide)]
          exact .inr (.inr ⟨hp0, h45, hdk, dark_of hk hf0 p hK⟩)
  · have e : lgAppend st l p = if lgRoom st l p.length false ≠ 0 then ((st, l), lgRoom st l p.length false) else lgPut st l p := by
      unfold lgAppend
      rw [if_neg hp0, if_neg hbig]
      simp only [hf, Bool.not_true, Bool.false_eq_true, if_false]
    by_cases hr : st.cap - (used st.fs : Int) < lgNeed l p.length false ∨ 64 - (st.fs.length : Int) < 0
    · refine .inr (.inl ⟨44, by decide, by decide, ?_⟩)
      have e2 : lgRoom st l p.length false = 44 := by unfold lgRoom; rw [hd, if_neg (by decide), if_pos (by simpa using hr)]
      rw [e, e2]; rfl
    · have e2 : lgRoom st l p.length false = 0 := by unfold lgRoom; rw [hd, if_neg (by decide), if_neg (by simpa using hr)]
      rw [e, e2, if_neg (by simp)]
      unfold lgNeed at hr
      simp only [Bool.false_eq_true, if_false] at hr
      have hgd : l.lastIx.good + 16 + p.length ≤ 1048576 := by
        have hf2 := hf
        unfold fitsB at hf2
        simp only [Bool.and_eq_true, Bool.or_eq_true, decide_eq_true_eq] at hf2
        omega
      rcases put_cut (p := p) hd hk ho hfl (by omega) hgd (by omega) with ⟨st', e4, hd4, ho4, hf4⟩ | ⟨h45, hdk, x, hx, hK⟩
      · exact .inl ⟨st', l.add p, e4, ⟨hd4, hk.add hpay (by omega) hgd, ho4, hf4⟩, add_next _ _, add_all _ _ (by omega), hf0, rfl⟩
      · exact .inr (.inr ⟨hp0, h45, hdk, dark_put hk hf0 hpay (by omega) hgd hx hK⟩)
/-- .. where there is none. -/
theorem app_dark {st : DkSt} {l : LgSt} (p : List UInt8) (hd : st.dark = true) : ∃ c, c ≠ 0 ∧ (c = 45 → p ≠ []) ∧ lgAppend st l p = ((st, l), c) := by
  by_cases hp0 : p = []
  · exact ⟨4, by decide, fun h => absurd h (by decide), by unfold lgAppend; rw [if_pos hp0]⟩
  by_cases hbig : 4096 < p.length ∨ 1048576 ≤ l.next
  · exact ⟨40, by decide, fun h => absurd h (by decide), by unfold lgAppend; rw [if_neg hp0, if_pos hbig]⟩
  refine ⟨45, by decide, fun _ => hp0, ?_⟩
  have hr : ∀ t, lgRoom st l p.length t = 45 := fun t => by unfold lgRoom; rw [hd, if_pos rfl]
  unfold lgAppend
  rw [if_neg hp0, if_neg hbig]
  simp only [hr]
  rfl

/-- A sync, wherever the power goes. -/
theorem sync_lit {st : DkSt} {l : LgSt} {S : Nat} (h : Lit st l S) (hf0 : l.first = 0) :
    (∃ st', lgSync st l = (st', 0) ∧ Lit st' l l.next) ∨ ((lgSync st l).2 = 45 ∧ (lgSync st l).1.dark = true ∧ ∀ p, Dark (lgSync st l).1 l.cfg l.all p S) := by
  obtain ⟨hd, hk, ho, hfl⟩ := h
  have h0 := hk.pos
  have h1 := hk.len
  obtain ⟨f, hf, hb, h16⟩ := ho.last hk
  have hkp : Kp st.fs l [] S := kp_lit hk ho hfl
  rcases sync_cut hd hf with e | ⟨h45, hdk, hF⟩
  · left
    refine ⟨_, e, hd, hk, ⟨?_, fun i hi hi' => ?_, fun g hg => ?_⟩, ?_⟩
    · simp only
      rw [get_put_ne (by exact name_not_file hk)]; exact ho.man
    · simp only
      by_cases hc : i + 1 = l.segs.length
      · have en : nameOf l.segs[i] = l.name := by rw [name_eq h0]; congr 2; omega
        rw [en]
        refine ⟨_, get_put_eq ⟨l.name, f.firm ++ f.pend, []⟩ _, ?_, by simp; omega, fun _ => rfl⟩
        simp only [List.append_nil]
        rw [hb, lastIx_eq (by omega)]
        have : l.ix.length - 1 = i := by omega
        simp only [this]
      · rw [get_put_ne]
        · exact ho.seg i hi hi'
        · show l.name ≠ _
          rw [name_eq h0]; exact name_ne hk.may (by omega) (by omega) (by omega)
    · rcases mem_put.1 hg with rfl | ⟨hg, _⟩
      · exact .inr (name_mem hk)
      · exact ho.only g hg
    · exact floor_all (f := ⟨l.name, f.firm ++ f.pend, []⟩) (get_put_eq _ _) (by simpa using hb) rfl
  · right
    refine ⟨h45, hdk, fun p => dark_of hk hf0 p ?_⟩
    have e9 : lgSync st l = dkSync st l.name := rfl
    rw [e9]
    rcases hF with h | h <;> rw [h]
    · exact hkp
    · exact hkp.synced hk hf
end Go.Proofs.YtcdjckdbcffgdaaGreatDoor

/- seglog, plainly: behind a crash a log is opened again. -/
namespace Go.Proofs.YtcdjckdbcffgdaaGreatDoor

theorem crash_get {n : List UInt8} (fs : Fs) : ∀ (ks : List Int) {f : FileS}, fsGet fs n = some f → ∃ k, fsGet (crashFs ks fs) n = some ⟨n, f.firm ++ f.pend.take k, []⟩ := by
  induction fs with
  | nil => intro ks f h; cases h
  | cons g r ih =>
    intro ks f h
    obtain ⟨g', ks', e, ⟨h1, h2, k, _, h3⟩, _⟩ := crash_step ks g r
    rw [e]
    by_cases hn : g.name = n
    · subst hn
      rw [get_cons_eq] at h
      obtain rfl := Option.some.inj h
      refine ⟨k, ?_⟩
      rw [← h1, get_cons_eq]
      obtain ⟨a, b, c⟩ := g'
      simp only at h2 h3
      rw [h2, h3]
    · rw [get_cons_ne hn] at h
      obtain ⟨k2, h4⟩ := ih ks' h
      exact ⟨k2, by rw [get_cons_ne (by rw [h1]; exact hn)]; exact h4⟩
theorem crash_mem {f : FileS} (fs : Fs) : ∀ (ks : List Int), f ∈ crashFs ks fs → ∃ g ∈ fs, g.name = f.name := by
  induction fs with
  | nil => intro ks h; rw [crash_nil] at h; cases h
  | cons g r ih =>
    intro ks h
    obtain ⟨g', ks', e, ⟨h1, _⟩, _⟩ := crash_step ks g r
    rw [e] at h
    rcases List.mem_cons.1 h with rfl | h
    · exact ⟨g, by simp, h1.symm⟩
    · obtain ⟨x, hx, e2⟩ := ih ks' h
      exact ⟨x, by simp [hx], e2⟩

/-- The log, its last segment these. -/
def LgSt.cut (l : LgSt) (ps : List (List UInt8)) : LgSt := { l with ix := l.ix.dropLast ++ [(l.lastIx.1, ps)] }
theorem cut_len (l : LgSt) (p : List (List UInt8)) (h0 : 0 < l.ix.length) : (l.cut p).ix.length = l.ix.length := by unfold LgSt.cut; simp; omega
theorem cut_get (l : LgSt) (p : List (List UInt8)) (i : Nat) (h : i < (l.cut p).ix.length) (h' : i < l.ix.length) : (l.cut p).ix[i] = if i + 1 = l.ix.length then (l.lastIx.1, p) else l.ix[i] := by
  rw [List.getElem_of_eq (show (l.cut p).ix = l.ix.dropLast ++ [(l.lastIx.1, p)] from rfl) h, List.getElem_append]
  by_cases hi : i + 1 = l.ix.length
  · rw [if_pos hi, dif_neg (by rw [List.length_dropLast]; omega), List.getElem_singleton]
  · rw [if_neg hi, dif_pos (by rw [List.length_dropLast]; omega), List.getElem_dropLast]
theorem cut_last (l : LgSt) (p : List (List UInt8)) : (l.cut p).lastIx = (l.lastIx.1, p) := by unfold LgSt.cut LgSt.lastIx; simp
theorem cut_next (l : LgSt) (p : List (List UInt8)) : (l.cut p).next = l.lastIx.1 + p.length := by unfold LgSt.next; rw [cut_last]; rfl
theorem all_split (l : LgSt) (h0 : 0 < l.ix.length) : l.all = (l.ix.dropLast.map (·.2)).flatten ++ l.lastIx.2 := by
  have e : l.ix = l.ix.dropLast ++ [l.lastIx] := by
    rw [lastIx_eq h0, ← List.getLast_eq_getElem (by intro e; rw [e] at h0; simp at h0), List.dropLast_concat_getLast]
  have e2 : l.all = ((l.ix.dropLast ++ [l.lastIx]).map (·.2)).flatten := by rw [← e]; rfl
  rw [e2]
  simp
theorem cut_all (l : LgSt) (p : List (List UInt8)) : (l.cut p).all = (l.ix.dropLast.map (·.2)).flatten ++ p := by unfold LgSt.cut LgSt.all; simp
theorem LgOk.cut {l : LgSt} (h : LgOk l) {p : List (List UInt8)} (hp : frOk l.lastIx.1 p) (hn : l.lastIx.1 + p.length ≤ 1048576) (hg : SgIx.good (l.lastIx.1, p) ≤ 1048576) : LgOk (l.cut p) := by
  have h0 := h.pos
  have h1 := h.len
  have hle := cut_len l p (by omega)
  have hx := lastIx_eq (l := l) (by omega)
  refine ⟨h.cfg, h.may, by rw [hle]; exact h1, fun i hi hi' => ?_, fun i hi => ?_, by rw [cut_next]; exact hn⟩
  · have hi2 : i < l.ix.length := by omega
    have he := h.each i hi hi2
    rw [cut_get l p i hi' hi2]
    by_cases hc : i + 1 = l.ix.length
    · rw [if_pos hc]
      have e : l.ix[i] = l.lastIx := by rw [hx]; congr 1; omega
      rw [e] at he
      exact ⟨he.1, hp, hg⟩
    · rw [if_neg hc]; exact he
  · have hi2 : i + 1 < l.ix.length := by omega
    have hr := h.row i hi2
    rw [cut_get l p i (by omega) (by omega), if_neg (by omega), cut_get l p (i + 1) hi hi2]
    by_cases hc : i + 1 + 1 = l.ix.length
    · rw [if_pos hc]
      have e : l.ix[i + 1] = l.lastIx := by rw [hx]; congr 1; omega
      rw [e] at hr
      exact hr
    · rw [if_neg hc]; exact hr

set_option maxHeartbeats 1000000 in
/-- Behind a crash: it is opened, with the first ones of its batches. -/
theorem kp_open {st : DkSt} {l : LgSt} {x : List (List UInt8)} {S : Nat} (ks : List Int) (h : Kp st.fs l x S) (hk : LgOk l) (hx : frOk l.lastIx.1 (l.lastIx.2 ++ x)) (hg : SgIx.good (l.lastIx.1, l.lastIx.2 ++ x) ≤ 1048576) (hok : DkOk (dkCrash st ks)) :
    ∃ st' l', lgOpen (dkCrash st ks) l.cfg = (st', 0, some l') ∧ Lit st' l' l'.next ∧ l'.first = l.first ∧ l'.cfg = l.cfg ∧ S ≤ l'.next ∧ ∃ t, l.all ++ x = l'.all ++ t := by
  have h0 := hk.pos
  have h1 := hk.len
  obtain ⟨q, hq⟩ : ∃ q, q = l.lastIx.1 := ⟨_, rfl⟩
  obtain ⟨ps, hps⟩ : ∃ ps, ps = l.lastIx.2 := ⟨_, rfl⟩
  have hql : q ≤ 1048576 := by have := hk.top; unfold LgSt.next SgIx.next at this; omega
  obtain ⟨f, m, hf, hb, hm1, hm2, hm3⟩ := h.last
  simp only [← hq, ← hps] at hb hm1 hm2 hm3 hx hg
  obtain ⟨k, hfc⟩ := crash_get st.fs ks hf
  obtain ⟨K, hK⟩ : ∃ K, K = (f.firm ++ f.pend.take k).length := ⟨_, rfl⟩
  have hB : f.firm ++ f.pend.take k = (segBytes q (ps ++ x)).take K := by
    have ht : f.firm ++ f.pend = (f.firm ++ f.pend.take k) ++ f.pend.drop k := by rw [List.append_assoc, List.take_append_drop]
    rw [← hb, ht]
    exact (List.take_left' hK.symm).symm
  have hK16 : 16 ≤ K := by rw [segBytes_length] at hm3; rw [hK, List.length_append]; omega
  have hKl : K ≤ (segBytes q (ps ++ x)).length := by rw [hK, ← hb, List.length_append, List.length_append, List.length_take]; omega
  obtain ⟨j, hj, hsc, hgk, htk, hmax⟩ := scan_part hql hx hK16 hKl
  have hmj : m ≤ j := hmax m (by rw [List.length_append]; omega) (by rw [List.take_append_of_le_length hm1, hK, List.length_append]; omega)
  have hfj : frOk q ((ps ++ x).take j) := ((frOk_append (q := q) (a := (ps ++ x).take j) (b := (ps ++ x).drop j)).1 (by rw [List.take_append_drop]; exact hx)).1
  have hjl : ((ps ++ x).take j).length = j := by rw [List.length_take]; omega
  have hgd : SgIx.good (q, (ps ++ x).take j) ≤ 1048576 := by
    have e : SgIx.good (q, ps ++ x) = (segBytes q (ps ++ x)).length := rfl
    omega
  have hok' : LgOk (l.cut ((ps ++ x).take j)) := hk.cut (by rw [← hq]; exact hfj) (by
    rw [← hq, hjl]
    rcases frOk_le hfj with e | e
    · rw [e] at hjl; simp at hjl; omega
    · rw [hjl] at e; exact e) (by rw [← hq]; exact hgd)
  obtain ⟨l', hl'⟩ : ∃ l', l' = l.cut ((ps ++ x).take j) := ⟨_, rfl⟩
  have hsegs : l'.segs = l.segs := by rw [hl']; rfl
  have hname : l'.name = l.name := by rw [hl']; rfl
  have hgen : l'.gen = l.gen := by rw [hl']; rfl
  have hlast : l'.lastIx = (q, (ps ++ x).take j) := by rw [hl', cut_last, hq]
  have hixl : l'.ix.length = l.ix.length := by rw [hl']; exact cut_len _ _ (by omega)
  have hget : ∀ i (hi : i < l'.ix.length) (hi' : i < l.ix.length), i + 1 < l.ix.length → l'.ix[i] = l.ix[i] := fun i hi hi' hc => by
    subst hl'
    rw [cut_get _ _ i hi hi', if_neg (by omega)]
  rw [← hl'] at hok'
  have hmid : ∀ i (hi : i + 1 < l'.segs.length) (hi' : i < l'.ix.length), ∃ g, fsGet (crashFs ks st.fs) (nameOf l'.segs[i]) = some g ∧ g.firm = segBytes l'.ix[i].1 l'.ix[i].2 ∧ g.pend = [] := fun i hi hi' => by
    obtain ⟨g, e1, e2, e3⟩ := h.mid i (by rw [← hsegs]; exact hi) (by omega)
    refine ⟨g, ?_, ?_, e3⟩
    · rw [crash_get_firm e3 st.fs ks (f0 := g)]
      simp only [hsegs]; exact e1
    · rw [hget i hi' (by omega) (by rw [hsegs] at hi; omega)]; exact e2
  have hsound : Sound (dkCrash st ks).fs l' := by
    refine ⟨hok'.len, fun i hi hi' => ?_, fun i hi hi' => (hok'.each i hi hi').1, hok'.row⟩
    obtain ⟨g, e1, e2, e3⟩ := hmid i hi hi'
    obtain ⟨e4, e5, _⟩ := hok'.each i (by omega) hi'
    have hq9 : l'.ix[i].1 ≤ 1048576 := by
      obtain ⟨a, b, e, _, h5⟩ := may_nat hok'.may i (by omega)
      rw [e] at e4; simp at e4; omega
    refine ⟨g, e1, ?_, ?_⟩
    · rw [e2, e3, List.append_nil]; exact scan_all hq9 e5
    · rw [e2, e3, List.append_nil]; rfl
  have hon : On (dkCrash st ks) := ⟨rfl, rfl⟩
  obtain ⟨fs', ho1, ho2, ho3, ho4, ho5⟩ := open_on (st := dkCrash st ks) (l := l') hon (fs_apart hok.fs) hok' (by rw [hgen, hsegs]; exact crash_get_firm rfl st.fs ks h.man)
    (fun g hg9 => by obtain ⟨y, hy, e⟩ := crash_mem st.fs ks hg9; rw [← e]; exact h.only y hy) hsound (f := ⟨l.name, f.firm ++ f.pend.take k, []⟩) (by rw [hname]; exact hfc)
    (by simp only [List.append_nil]; rw [hB, hsc, hlast]) (by simp only [List.append_nil]; rw [hlast, ← hK]; exact hgk)
  have hlf : ∃ g, fsGet fs' l'.name = some g ∧ g.firm = segBytes q ((ps ++ x).take j) ∧ g.pend = [] := by
    rw [ho4]
    simp only [List.append_nil]
    rw [hlast]
    split
    · exact ⟨_, rfl, by simp only; rw [hB]; exact htk, rfl⟩
    · rename_i hc
      refine ⟨_, rfl, ?_, rfl⟩
      simp only
      rw [← htk, ← hB]
      exact (List.take_of_length_le (by omega)).symm
  obtain ⟨g, hg1, hg2, hg3⟩ := hlf
  have hlix : ∀ i (hi : i < l'.ix.length), i + 1 = l'.segs.length → l'.ix[i] = (q, (ps ++ x).take j) := fun i hi hc => by
    rw [← hlast, lastIx_eq (by omega)]; congr 1; have := hok'.len; omega
  refine ⟨{ dkCrash st ks with fs := fs' }, l', by rw [show l.cfg = l'.cfg from by rw [hl']; rfl]; exact ho1, ⟨rfl, hok', ⟨?_, fun i hi hi' => ?_, ho5⟩, ?_⟩, by rw [hl']; rfl, by rw [hl']; rfl, ?_, (ps ++ x).drop j, ?_⟩
  · show fsGet fs' fileN = _
    rw [ho2, hgen, hsegs]; exact crash_get_firm rfl st.fs ks h.man
  · by_cases hc : i + 1 < l'.segs.length
    · obtain ⟨y, e1, e2, e3⟩ := hmid i hc hi'
      refine ⟨y, (ho3 i hc).trans e1, by rw [e2, e3, List.append_nil], ?_, fun _ => e3⟩
      rw [e2, segBytes_length]; omega
    · have hc2 : i + 1 = l'.segs.length := by omega
      have en : nameOf l'.segs[i] = l'.name := by rw [name_eq hok'.pos]; congr 2; omega
      rw [en, hlix i hi' hc2]
      refine ⟨g, hg1, by rw [hg2, hg3, List.append_nil], ?_, fun _ => hg3⟩
      rw [hg2, segBytes_length]; omega
  · exact floor_all (f := g) hg1 (by rw [hg2, hg3, List.append_nil, hlast]) hg3
  · unfold LgSt.next; rw [hlast]; unfold SgIx.next; simp only; omega
  · rw [hl', cut_all, all_split l (by omega), ← hps, List.append_assoc, List.append_assoc, List.take_append_drop]
end Go.Proofs.YtcdjckdbcffgdaaGreatDoor

/- SeglogKept, plainly: what is so ahead of each act. -/
namespace Go.Proofs.YtcdjckdbcffgdaaGreatDoor

/-- The disk, the log in memory, all batches, the one that was cut off, how many are synced. -/
def KpRel (st : DkSt) (l : LgSt) (c : Cfg) (all : List (List UInt8)) (cut : List UInt8) (S : Nat) : Prop :=
  (st.dark = false ∧ cut = [] ∧ Lit st l S ∧ l.all = all ∧ l.first = 0 ∧ l.cfg = c) ∨ (st.dark = true ∧ ((cut = [] ∧ ∀ p, Dark st c all p S) ∨ (cut ≠ [] ∧ Dark st c all cut S)))

theorem lit_next {l : LgSt} (hk : LgOk l) (hf : l.first = 0) : l.next = l.all.length := by
  have h0 : 0 < l.ix.length := by rw [hk.len]; exact hk.pos
  have h := next_eq hk h0
  have h2 := first_eq hk h0
  omega

/-- An append. -/
theorem kept_append {st : DkSt} {l : LgSt} {c : Cfg} {all : List (List UInt8)} {cut : List UInt8} {S : Nat} (p : List UInt8) (ha : Apart st.fs) (h : KpRel st l c all cut S) :
    ((lgAppend st l p).2 = 0 ∧ lgSeq l (lgAppend st l p) = all.length ∧ KpRel (lgAppend st l p).1.1 (lgAppend st l p).1.2 c (all ++ [p]) cut S) ∨
    ((lgAppend st l p).2 ≠ 0 ∧ ((lgAppend st l p).2 = 45 → cut = [] → KpRel (lgAppend st l p).1.1 (lgAppend st l p).1.2 c all p S) ∧ (((lgAppend st l p).2 ≠ 45 ∨ cut ≠ []) → KpRel (lgAppend st l p).1.1 (lgAppend st l p).1.2 c all cut S)) := by
  rcases h with ⟨hd, rfl, hl, rfl, hf, rfl⟩ | ⟨hd, h⟩
  · rcases app_cut p ha hl hf with ⟨st', l', e, h1, h2, h3, h4, h5⟩ | ⟨k, h1, h2, e⟩ | ⟨h1, h2, h3, h4⟩
    · left
      rw [e]
      refine ⟨rfl, ?_, .inl ⟨h1.lit, rfl, h1, h3, h4, h5⟩⟩
      unfold lgSeq
      rw [if_pos rfl, lit_next hl.ok hf]
    · right
      rw [e]
      exact ⟨h1, fun h => absurd h h2, fun _ => .inl ⟨hd, rfl, hl, rfl, hf, rfl⟩⟩
    · right
      exact ⟨by rw [h2]; decide, fun _ _ => .inr ⟨h3, .inr ⟨h1, h4⟩⟩, fun h => by rcases h with h | h; exact absurd h2 h; exact absurd rfl h⟩
  · obtain ⟨k, h1, h2, e⟩ := app_dark (l := l) p hd
    right
    rw [e]
    refine ⟨h1, fun h45 hc => .inr ⟨hd, .inr ⟨h2 h45, ?_⟩⟩, fun _ => .inr ⟨hd, h⟩⟩
    rcases h with ⟨_, h⟩ | ⟨h, _⟩
    · exact h p
    · exact absurd hc h

/-- A sync. -/
theorem kept_sync {st : DkSt} {l : LgSt} {c : Cfg} {all : List (List UInt8)} {cut : List UInt8} {S : Nat} (h : KpRel st l c all cut S) :
    ((lgSync st l).2 = 0 ∧ KpRel (lgSync st l).1 l c all cut all.length) ∨ ((lgSync st l).2 ≠ 0 ∧ KpRel (lgSync st l).1 l c all cut S) := by
  rcases h with ⟨hd, rfl, hl, rfl, hf, rfl⟩ | ⟨hd, h⟩
  · rcases sync_lit hl hf with ⟨st', e, h1⟩ | ⟨h1, h2, h3⟩
    · left
      rw [e]
      exact ⟨rfl, .inl ⟨h1.lit, rfl, by rw [← lit_next hl.ok hf]; exact h1, rfl, hf, rfl⟩⟩
    · right
      exact ⟨by rw [h1]; decide, .inr ⟨h2, .inl ⟨rfl, h3⟩⟩⟩
  · right
    have e : lgSync st l = (st, 45) := by unfold lgSync dkSync; rw [hd]; rfl
    rw [e]
    exact ⟨by simp, .inr ⟨hd, h⟩⟩

/-- The power is to go. -/
theorem kept_cut {st : DkSt} {l : LgSt} {c : Cfg} {all : List (List UInt8)} {cut : List UInt8} {S : Nat} (n : Int) (h : KpRel st l c all cut S) : KpRel (dkCut st n).1 l c all cut S := by
  unfold dkCut
  split
  · exact h
  · split
    · exact h
    · rcases h with ⟨hd, rfl, ⟨a1, a2, a3, a4⟩, rfl, hf, rfl⟩ | ⟨hd, h⟩
      · exact .inl ⟨hd, rfl, ⟨a1, a2, ⟨a3.man, a3.seg, a3.only⟩, a4⟩, rfl, hf, rfl⟩
      · rename_i h1 _
        exact absurd hd h1

theorem kp_names {fs : Fs} {l : LgSt} {x : List (List UInt8)} {S : Nat} (h : Kp fs l x S) : ∀ f ∈ fs, 1 ≤ f.name.length := fun f hf => by
  rcases h.only f hf with e | e | ⟨a, b, h1, h2, e⟩
  · rw [e]; decide
  · rw [e]; decide
  · rw [e, segName_len a b h1 h2]; omega
theorem crash_names {fs : Fs} (h : ∀ f ∈ fs, 1 ≤ f.name.length) (ks : List Int) : ∀ f ∈ crashFs ks fs, 1 ≤ f.name.length := fun f hf => by
  obtain ⟨y, hy, e⟩ := crash_mem fs ks hf
  rw [← e]; exact h y hy

/-- The power went, and the log is opened. -/
structure Reopened (st : DkSt) (ks : List Int) (c : Cfg) (all : List (List UInt8)) (cut : List UInt8) (S : Nat) (st' : DkSt) (l' : LgSt) : Prop where
  op : lgOpen (dkCrash st ks) c = (st', 0, some l')
  lit : Lit st' l' l'.next
  first : l'.first = 0
  cfg : l'.cfg = c
  low : S ≤ l'.next
  high : l'.next ≤ all.length + 1
  cut : l'.next = all.length + 1 → cut ≠ [] ∧ l'.all = all ++ [cut]
  all : l'.next ≠ all.length + 1 → l'.all = all.take l'.next
theorem reopened_of {st : DkSt} {ks : List Int} {c : Cfg} {all : List (List UInt8)} {cut : List UInt8} {S : Nat} (hok : DkOk (dkCrash st ks)) {l : LgSt} {x : List (List UInt8)} (h : Kp st.fs l x S) (hk : LgOk l) (hc : l.cfg = c) (hf : l.first = 0) (ha : l.all = all) (hx : x = [] ∨ (cut ≠ [] ∧ x = [cut]))
    (hfr : frOk l.lastIx.1 (l.lastIx.2 ++ x)) (hg : SgIx.good (l.lastIx.1, l.lastIx.2 ++ x) ≤ 1048576) : ∃ st' l', Reopened st ks c all cut S st' l' := by
  obtain ⟨st', l', h1, h2, h3, h4, h5, t, h6⟩ := kp_open ks h hk hfr hg hok
  have hn := lit_next h2.ok (h3.trans hf)
  have hl := congrArg List.length h6
  rw [List.length_append, List.length_append, ha] at hl
  rw [ha] at h6
  refine ⟨st', l', ⟨by rw [← hc]; exact h1, h2, h3.trans hf, h4.trans hc, h5, ?_, fun he => ?_, fun he => ?_⟩⟩
  · rcases hx with rfl | ⟨_, rfl⟩
    · simp at hl; omega
    · simp at hl; omega
  · rcases hx with rfl | ⟨hx, rfl⟩
    · simp at hl; omega
    · refine ⟨hx, ?_⟩
      have : t = [] := List.eq_nil_of_length_eq_zero (by simp at hl; omega)
      rw [this, List.append_nil] at h6
      exact h6.symm
  · have hle : l'.all.length ≤ all.length := by
      rcases hx with rfl | ⟨_, rfl⟩
      · simp at hl; omega
      · simp at hl; omega
    have e : (all ++ x).take l'.all.length = l'.all := by rw [h6]; exact List.take_left' rfl
    rw [hn, ← e, List.take_append_of_le_length hle]
    simp
theorem kept_crash {st : DkSt} {l : LgSt} {c : Cfg} {all : List (List UInt8)} {cut : List UInt8} {S : Nat} (ks : List Int) (hok : DkOk (dkCrash st ks)) (h : KpRel st l c all cut S) : (∃ st' l', Reopened st ks c all cut S st' l') ∧ ∀ f ∈ (dkCrash st ks).fs, 1 ≤ f.name.length := by
  have dk : ∀ {l : LgSt} {x : List (List UInt8)}, Kp st.fs l x S → ∀ f ∈ (dkCrash st ks).fs, 1 ≤ f.name.length := fun h => crash_names (kp_names h) ks
  rcases h with ⟨hd, rfl, ⟨a1, a2, a3, a4⟩, ha, hf, hc⟩ | ⟨hd, h⟩
  · have hk := kp_lit a2 a3 a4
    have hl := a2.last
    exact ⟨reopened_of hok hk a2 hc hf ha (.inl rfl) (by rw [List.append_nil]; exact hl.1) (by rw [List.append_nil]; exact hl.2.1), dk hk⟩
  · rcases h with ⟨rfl, h⟩ | ⟨hc, h⟩
    · obtain ⟨l1, x, h1, h2, h3, h4, h5, h6, h7, h8⟩ := h []
      refine ⟨reopened_of hok h1 h2 h3 h4 h5 (.inl ?_) h7 h8, dk h1⟩
      rcases h6 with h6 | h6
      · exact h6
      · subst h6
        have hp := frOk_mem h7 [] (by simp)
        exact absurd hp.1 (by simp)
    · obtain ⟨l1, x, h1, h2, h3, h4, h5, h6, h7, h8⟩ := h
      exact ⟨reopened_of hok h1 h2 h3 h4 h5 (h6.imp id fun h => ⟨hc, h⟩) h7 h8, dk h1⟩
theorem Reopened.rel {st : DkSt} {ks : List Int} {c : Cfg} {all : List (List UInt8)} {cut : List UInt8} {S : Nat} {st' : DkSt} {l' : LgSt} (h : Reopened st ks c all cut S st' l') : KpRel st' l' c l'.all [] l'.next := .inl ⟨h.lit.lit, rfl, h.lit, rfl, h.first, h.cfg⟩
/-- Behind Init. -/
theorem kept_new {st : DkSt} {c : Cfg} (hd : st.dark = false) (hk : LgOk (newL c 0)) (ho : LgOn st (newL c 0)) : KpRel st (newL c 0) c [] [] 0 := by
  obtain ⟨f, h1, h2, h3⟩ := ho.last hk
  exact .inl ⟨hd, rfl, ⟨hd, hk, ho, ⟨f, 0, h1, Nat.zero_le _, Nat.zero_le _, by rw [List.take_zero, segBytes_length]; exact h3⟩⟩, rfl, rfl, rfl⟩
end Go.Proofs.YtcdjckdbcffgdaaGreatDoor
