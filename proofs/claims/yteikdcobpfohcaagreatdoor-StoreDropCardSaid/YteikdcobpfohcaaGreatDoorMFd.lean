/- Snapshots' files' names, plainly. -/
import Derived.Test.YteikdcobpfohcaaGreatDoorMFc
namespace Go.Proofs.YteikdcobpfohcaaGreatDoor
open Go.RowKit

/-- A snapshot's file's name. -/
def snapName (n : Int) : List UInt8 := if 0 ≤ n ∧ n ≤ 1048576 then 110 :: padded n 10 else []
/-- The name is a snapshot's file's. -/
def isSnap (s : List UInt8) : Prop := ∃ n : Nat, n ≤ 1048576 ∧ s = snapName (n : Int)
theorem snapName_eq (n : Nat) (h : n ≤ 1048576) : snapName (n : Int) = 110 :: padded (n : Int) 10 := by
  unfold snapName; rw [if_pos (by omega)]
theorem snapName_len (n : Nat) (h : n ≤ 1048576) : (snapName (n : Int)).length = 11 := by
  rw [snapName_eq n h, List.length_cons, padded_len n 9 (by omega)]
theorem snapName_inj {n m : Nat} (hn : n ≤ 1048576) (hm : m ≤ 1048576) (h : snapName (n : Int) = snapName (m : Int)) : n = m := by
  rw [snapName_eq n hn, snapName_eq m hm] at h
  have h := (List.cons.inj h).2
  have p1 := parse_padded n 10 (by omega)
  have p2 := parse_padded m 10 (by omega)
  rw [h, p2] at p1
  simp only [Lib.NumEnd.ok.injEq] at p1
  omega
theorem snapName_of {n : Int} (h : snapName n ≠ []) : 0 ≤ n ∧ n ≤ 1048576 := by
  unfold snapName at h
  split at h
  · assumption
  · exact absurd rfl h
theorem snap_prefix (r : List UInt8) : Lib.hasPrefix (110 :: r) [110] = true := by
  unfold Lib.hasPrefix; simp
theorem snap_trim (r : List UInt8) : Lib.trimPrefix (110 :: r) [110] = r := by
  unfold Lib.trimPrefix Lib.hasPrefix; simp
theorem trim_short (a b : List UInt8) : (Lib.trimPrefix a b).length ≤ a.length := by
  unfold Lib.trimPrefix
  split
  · rw [List.length_drop]; omega
  · exact Nat.le_refl _
open Classical in
/-- The number that a snapshot's file's name says. -/
noncomputable def snapNum (s : List UInt8) : Option Nat := if isSnap s then some (vF 0 (s.drop 1)) else none
theorem snapNum_name (n : Nat) (h : n ≤ 1048576) : snapNum (snapName (n : Int)) = some n := by
  unfold snapNum
  rw [if_pos ⟨n, h, rfl⟩, snapName_eq n h]
  show some (vF 0 (padded (n : Int) 10)) = _
  rw [vF_padded]
theorem snapNum_some {s : List UInt8} {n : Nat} (h : snapNum s = some n) : n ≤ 1048576 ∧ s = snapName (n : Int) := by
  by_cases hs : isSnap s
  · obtain ⟨m, hm, rfl⟩ := hs
    rw [snapNum_name m hm] at h
    cases h; exact ⟨hm, rfl⟩
  · unfold snapNum at h; rw [if_neg hs] at h; cases h
theorem snapNum_none {s : List UInt8} : snapNum s = none ↔ ¬ isSnap s := by
  constructor
  · intro h ⟨m, hm, e⟩; rw [e, snapNum_name m hm] at h; cases h
  · intro h; unfold snapNum; rw [if_neg h]
end Go.Proofs.YteikdcobpfohcaaGreatDoor

/- What Drop leaves, plainly. -/
namespace Go.Proofs.YteikdcobpfohcaaGreatDoor
open Go.RowKit

/-- Drop, as a function on a disk. -/
def dropL (but : Int) : List Nat → DkSt → DkSt × Int
  | [], st => (st, 0)
  | n :: r, st => if (n : Int) = but then dropL but r st else if (dkDelete st (snapName (n : Int))).2 = 0 then dropL but r (dkDelete st (snapName (n : Int))).1 else dkDelete st (snapName (n : Int))

/-- The numbers of all snapshots' files. -/
noncomputable def snapNums (ns : List (List UInt8)) : List Nat := ns.filterMap snapNum
theorem snapNums_step {ns : List (List UInt8)} {k : Nat} (hk : k < ns.length) : snapNums (ns.take (k + 1)) = snapNums (ns.take k) ++ (snapNum ns[k]).toList := by
  unfold snapNums
  rw [List.take_succ_eq_append_getElem hk, List.filterMap_append]
  cases h : snapNum ns[k] <;> simp [h]
theorem snapNums_le (ns : List (List UInt8)) : (snapNums ns).length ≤ ns.length := List.length_filterMap_le _ _
noncomputable def dkDrop (st : DkSt) (but : Int) : DkSt × Int := if st.dark then (st, 45) else dropL but (snapNums (st.fs.map (·.name))) st

/-- The file goes, where all but one are dropped. -/
noncomputable def goes (but : Int) (f : FileS) : Bool := match snapNum f.name with | some n => decide ((n : Int) ≠ but) | none => false
theorem mem_nums {fs : Fs} {n : Nat} : n ∈ snapNums (fs.map (·.name)) ↔ n ≤ 1048576 ∧ ∃ f ∈ fs, f.name = snapName (n : Int) := by
  unfold snapNums
  rw [List.mem_filterMap]
  constructor
  · rintro ⟨x, hx, h⟩
    obtain ⟨f, hf, rfl⟩ := List.mem_map.1 hx
    obtain ⟨h1, h2⟩ := snapNum_some h
    exact ⟨h1, f, hf, h2⟩
  · rintro ⟨h1, f, hf, h2⟩
    exact ⟨f.name, List.mem_map.2 ⟨f, hf, rfl⟩, by rw [h2, snapNum_name n h1]⟩
theorem nums_apart {fs : Fs} (h : Apart fs) : (snapNums (fs.map (·.name))).Pairwise (· ≠ ·) := by
  unfold snapNums
  rw [List.pairwise_filterMap, List.pairwise_map]
  unfold Apart at h
  refine h.imp ?_
  intro f g hfg n hn m hm e
  subst e
  exact hfg ((snapNum_some hn).2.trans (snapNum_some hm).2.symm)

theorem dropL_on (but : Int) : ∀ (ns : List Nat) {st : DkSt}, On st → (∀ n ∈ ns, n ≤ 1048576) → ns.Pairwise (· ≠ ·) → (∀ n ∈ ns, (fsGet st.fs (snapName (n : Int))).isSome = true) →
    dropL but ns st = ({ st with fs := st.fs.filter fun f => !(ns.any fun n => decide ((n : Int) ≠ but) && (f.name == snapName (n : Int))) }, 0)
  | [], st, _, _, _, _ => by
    simp only [dropL, List.any_nil, Bool.not_false]
    rw [List.filter_eq_self.2 (fun _ _ => rfl)]
  | n :: r, st, hon, hle, hne, hin => by
    obtain ⟨h1, h2⟩ := List.pairwise_cons.1 hne
    by_cases hb : (n : Int) = but
    · rw [dropL, if_pos hb, dropL_on but r hon (fun m hm => hle m (by simp [hm])) h2 (fun m hm => hin m (by simp [hm]))]
      simp [hb]
    · obtain ⟨f, hf⟩ := Option.isSome_iff_exists.1 (hin n (by simp))
      have e := delete_on hon hf
      rw [dropL, if_neg hb, e, if_pos rfl]
      rw [dropL_on but r (st := { st with fs := fsDel st.fs (snapName (n : Int)) }) (hon.put _) (fun m hm => hle m (by simp [hm])) h2 (fun m hm => by
        simp only
        rw [get_del_ne (fun e => h1 m hm (snapName_inj (hle n (by simp)) (hle m (by simp [hm])) e))]
        exact hin m (by simp [hm]))]
      simp only [fsDel, List.filter_filter]
      congr 2
      apply List.filter_congr
      intro x _
      simp [hb]
      exact Bool.and_comm _ _

theorem get_isSome {fs : Fs} {f : FileS} (h : f ∈ fs) : (fsGet fs f.name).isSome = true := by
  unfold fsGet
  rw [List.find?_isSome]
  exact ⟨f, h, by simp⟩

/-- Behind Drop. -/
theorem drop_on {st : DkSt} (h : On st) (ha : Apart st.fs) (but : Int) : dkDrop st but = ({ st with fs := st.fs.filter fun f => !(goes but f) }, 0) := by
  unfold dkDrop
  rw [if_neg (by rw [h.lit]; decide), dropL_on but _ h (fun n hn => (mem_nums.1 hn).1) (nums_apart ha) (fun n hn => by
    obtain ⟨_, f, hf, e⟩ := mem_nums.1 hn
    rw [← e]; exact get_isSome hf)]
  congr 2
  apply List.filter_congr
  intro f hf
  congr 1
  rw [Bool.eq_iff_iff, List.any_eq_true]
  unfold goes
  constructor
  · rintro ⟨n, hn, h2⟩
    simp only [Bool.and_eq_true, decide_eq_true_eq, beq_iff_eq] at h2
    rw [h2.2, snapNum_name n (mem_nums.1 hn).1]
    simpa using h2.1
  · intro h2
    cases hs : snapNum f.name with
    | none => rw [hs] at h2; simp at h2
    | some n =>
      rw [hs] at h2
      obtain ⟨h3, h4⟩ := snapNum_some hs
      refine ⟨n, mem_nums.2 ⟨h3, f, hf, h4⟩, ?_⟩
      simp only [Bool.and_eq_true, decide_eq_true_eq, beq_iff_eq]
      exact ⟨by simpa using h2, h4⟩
theorem goes_none {st : DkSt} (but : Int) : ∀ f ∈ st.fs.filter (fun f => !(goes but f)), goes but f = false := by
  intro f hf
  have := (List.mem_filter.1 hf).2
  simpa using this
/-- Done twice it is as once. -/
theorem drop_twice (fs : Fs) (but : Int) : (fs.filter fun f => !(goes but f)).filter (fun f => !(goes but f)) = fs.filter fun f => !(goes but f) := by
  rw [List.filter_filter]; congr 1; funext f; simp
/-- List has that number alone. -/
theorem nums_drop {fs : Fs} (ha : Apart fs) (but : Int) : snapNums ((fs.filter fun f => !(goes but f)).map (·.name)) = [] ∨ ∃ n : Nat, (n : Int) = but ∧ snapNums ((fs.filter fun f => !(goes but f)).map (·.name)) = [n] := by
  have hp := nums_apart (fs := fs.filter fun f => !(goes but f)) (List.Pairwise.filter _ ha)
  have hb : ∀ n ∈ snapNums ((fs.filter fun f => !(goes but f)).map (·.name)), (n : Int) = but := by
    intro n hn
    obtain ⟨h1, f, hf, e⟩ := mem_nums.1 hn
    have := (List.mem_filter.1 hf).2
    unfold goes at this
    rw [e, snapNum_name n h1] at this
    simpa using this
  generalize snapNums ((fs.filter fun f => !(goes but f)).map (·.name)) = l at hp hb
  match l, hp, hb with
  | [], _, _ => exact .inl rfl
  | [n], _, hb => exact .inr ⟨n, hb n (by simp), rfl⟩
  | n :: m :: r, hp, hb =>
    exfalso
    have h1 := hb n (by simp)
    have h2 := hb m (by simp)
    have := (List.pairwise_cons.1 hp).1 m (by simp)
    omega
end Go.Proofs.YteikdcobpfohcaaGreatDoor

/- Snapshots' files' names, as the kernel computes them. -/
namespace Go.Proofs.YteikdcobpfohcaaGreatDoor
open Go.RowKit

theorem vF_inj : ∀ (A B : List UInt8) (n : Nat), A.length = B.length → (∀ c ∈ A, isDig c) → (∀ c ∈ B, isDig c) → vF n A = vF n B → A = B := by
  intro A B n hl hA hB h
  by_cases e : A = B
  · exact e
  · exfalso
    -- the first unlike digits decide
    induction A generalizing B n with
    | nil => cases B with
      | nil => exact e rfl
      | cons b s => simp at hl
    | cons a r ih => cases B with
      | nil => simp at hl
      | cons b s =>
        have ha := hA a (by simp)
        have hb := hB b (by simp)
        unfold isDig at ha hb
        have hl' : r.length = s.length := by simpa using hl
        have hA' : ∀ c ∈ r, isDig c := fun x hx => hA x (by simp [hx])
        have hB' : ∀ c ∈ s, isDig c := fun x hx => hB x (by simp [hx])
        have h' : vF (n * 10 + (a.toNat - 48)) r = vF (n * 10 + (b.toNat - 48)) s := h
        have g1 := vF_lt s hB' (n * 10 + (b.toNat - 48))
        have g2 := vF_ge r (n * 10 + (a.toNat - 48))
        have g3 := vF_lt r hA' (n * 10 + (a.toNat - 48))
        have g4 := vF_ge s (n * 10 + (b.toNat - 48))
        rw [hl'] at g2 g3
        rcases Nat.lt_trichotomy a.toNat b.toNat with hc | hc | hc
        · have h3 : (n * 10 + (a.toNat - 48) + 1) * p10 s.length ≤ (n * 10 + (b.toNat - 48)) * p10 s.length := Nat.mul_le_mul_right _ (by omega)
          omega
        · have e2 : a = b := UInt8.toNat_inj.1 hc
          subst e2
          exact ih s _ hl' hA' hB' h' (fun e3 => e (by rw [e3]))
        · have h3 : (n * 10 + (b.toNat - 48) + 1) * p10 s.length ≤ (n * 10 + (a.toNat - 48)) * p10 s.length := Nat.mul_le_mul_right _ (by omega)
          omega

/-- The number that a snapshot's file's name says, computed. -/
def snapC (s : List UInt8) : Option Nat :=
  if s.take 1 = [110] ∧ s.length = 11 ∧ (s.drop 1).all (fun c => decide (48 ≤ c.toNat) && decide (c.toNat ≤ 57)) = true ∧ vF 0 (s.drop 1) ≤ 1048576 then some (vF 0 (s.drop 1)) else none
theorem snapC_eq (s : List UInt8) : snapC s = snapNum s := by
  cases h : snapNum s with
  | some n =>
    obtain ⟨hn, rfl⟩ := snapNum_some h
    have hd : (snapName (n : Int)).drop 1 = padded (n : Int) 10 := by rw [snapName_eq n hn]; rfl
    unfold snapC
    rw [hd, vF_padded, if_pos]
    refine ⟨by rw [snapName_eq n hn]; rfl, snapName_len n hn, ?_, hn⟩
    rw [List.all_eq_true]
    intro c hc
    have := padded_digs n 10 c hc
    unfold isDig at this
    simp [this.1, this.2]
  | none =>
    unfold snapC
    rw [if_neg]
    rintro ⟨h1, h2, h3, h4⟩
    refine snapNum_none.1 h ⟨vF 0 (s.drop 1), h4, ?_⟩
    have hs : s = 110 :: s.drop 1 := by
      have := List.take_append_drop 1 s
      rw [h1] at this
      exact this.symm
    rw [snapName_eq _ h4]
    conv => lhs; rw [hs]
    congr 1
    refine vF_inj _ _ 0 ?_ (fun c hc => ?_) (padded_digs _ 10) (by rw [vF_padded])
    · rw [List.length_drop, h2, padded_len _ 9 (by omega)]
    · rw [List.all_eq_true] at h3
      have := h3 c hc
      unfold isDig
      simpa using this
def numsC (ns : List (List UInt8)) : List Nat := ns.filterMap snapC
theorem numsC_eq (ns : List (List UInt8)) : numsC ns = snapNums ns := by
  unfold numsC snapNums; congr 1; funext s; exact snapC_eq s
def dropC (st : DkSt) (but : Int) : DkSt × Int := if st.dark then (st, 45) else dropL but (numsC (st.fs.map (·.name))) st
theorem dropC_eq (st : DkSt) (but : Int) : dropC st but = dkDrop st but := by unfold dropC dkDrop; rw [numsC_eq]
example : snapC [110, 48, 48, 48, 48, 48, 48, 48, 48, 49, 55] = some 17 := by decide +kernel
end Go.Proofs.YteikdcobpfohcaaGreatDoor
