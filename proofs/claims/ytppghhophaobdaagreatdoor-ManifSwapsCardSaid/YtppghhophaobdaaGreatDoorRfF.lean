/- The reference's disk: goes, MayName, Read, Cut. -/
import Derived.Test.YtppghhophaobdaaGreatDoorRfE
namespace Go.Proofs.YtppghhophaobdaaGreatDoor
open Go.RowKit Go.Maps Go.Sort

theorem IsRf.dark {w : World} {x g c : Nat} {st : DkSt} (h : IsRf w x g c st) (b : Bool) : IsRf (w.setCell ⟨x, 3, none⟩ (.bool b)) x g c { st with dark := b } :=
  ⟨heap_setCell_same w x 3 _ _ _ h.cell, ownsRow_setCell_other (a := ⟨x, 3, none⟩) h.own (fun e => h.ne (Option.some.inj (show some g = some x from e))) _, h.le, h.ne, ⟨h.ok.fs, h.ok.cap0, h.ok.cap1, h.ok.fits, h.ok.left0, h.ok.left1⟩⟩
theorem IsRf.left {w : World} {x g c : Nat} {st : DkSt} (h : IsRf w x g c st) (n : Int) (h0 : -1 ≤ n) (h1 : n ≤ 9223372036854775807) : IsRf (w.setCell ⟨x, 2, none⟩ (.int .i64 n)) x g c { st with left := n } :=
  ⟨heap_setCell_same w x 2 _ _ _ h.cell, ownsRow_setCell_other (a := ⟨x, 2, none⟩) h.own (fun e => h.ne (Option.some.inj (show some g = some x from e))) _, h.le, h.ne, ⟨h.ok.fs, h.ok.cap0, h.ok.cap1, h.ok.fits, h0, h1⟩⟩

/-- What goes leaves. -/
def rfGoes (st : DkSt) : DkSt × Bool := if st.left = 0 then ({ st with dark := true }, false) else ({ st with left := dec st.left }, true)

set_option maxRecDepth 100000 in
set_option maxHeartbeats 1000000 in
theorem rf_goes (w : World) (x g c : Nat) (st : DkSt) (h : IsRf w x g c st) :
    Calls Tryz.prog 135 #[.pointer (some ⟨x, 0, none⟩)] w fun e w' => e = .returned (.bool (rfGoes st).2) ∧ IsRf w' x g c (rfGoes st).1 ∧ Fr (fun k => k = x) w w' := by
  have H := Lib.hid h
  obtain ⟨_, _, c2, c3⟩ := h.cs
  have z2 := h.fz 2
  have z3 := h.fz 3
  have hl0 := h.ok.left0
  have hl1 := h.ok.left1
  clear h
  obtain ⟨r, hr⟩ : ∃ r, r = rfGoes st := ⟨_, rfl⟩
  rw [← hr]
  by_cases h0 : st.left = 0
  · have HR := Lib.hid (show r = ({ st with dark := true }, false) by rw [hr]; unfold rfGoes; rw [if_pos h0])
    rw [h0] at c2
    clear hr
    go_enter Tryz.func135, Tryz.ntmps135
    go_wp2
    go_ret
    exact ⟨ret_bool (a := false) (by rw [HR.out]), by rw [HR.out]; exact H.out.dark true, setCell_fr (w := w) ⟨x, 3, none⟩ _⟩
  · by_cases h1 : st.left = -1
    · have HR := Lib.hid (show r = (st, true) by rw [hr]; unfold rfGoes; rw [if_neg h0]; unfold dec; rw [if_pos h1]; rw [← h1])
      rw [h1] at c2
      clear hr h0
      go_enter Tryz.func135, Tryz.ntmps135
      go_wp2
      go_ret
      exact ⟨ret_bool (a := true) (by rw [HR.out]), by rw [HR.out]; exact H.out, Fr.refl _ _⟩
    · have hpos : 0 < st.left := by omega
      have HR := Lib.hid (show r = ({ st with left := st.left - 1 }, true) by rw [hr]; unfold rfGoes; rw [if_neg h0]; unfold dec; rw [if_neg h1])
      have hb : (st.left == 0) = false := by simpa using h0
      have hd : decide (0 < st.left) = true := by simpa using hpos
      clear hr
      generalize hL : st.left = L at *
      have HL := Lib.hid hL
      clear hL
      go_enter Tryz.func135, Tryz.ntmps135
      go_wp2
      go_ret
      exact ⟨ret_bool (a := true) (by rw [HR.out]), by rw [HR.out]; exact H.out.left (L - 1) (by omega) (by omega), setCell_fr (w := w) ⟨x, 2, none⟩ _⟩

theorem letters_all : ∀ n : Nat, n < 256 → (letters.contains (UInt8.ofNat n) = true ↔ (97 ≤ n ∧ n ≤ 122) ∨ (65 ≤ n ∧ n ≤ 90) ∨ (48 ≤ n ∧ n ≤ 57) ∨ n = 45 ∨ n = 95 ∨ n = 46) := by
  decide +kernel
theorem letters_at (c : UInt8) : letters.contains c = true ↔ (97 ≤ c.toNat ∧ c.toNat ≤ 122) ∨ (65 ≤ c.toNat ∧ c.toNat ≤ 90) ∨ (48 ≤ c.toNat ∧ c.toNat ≤ 57) ∨ c.toNat = 45 ∨ c.toNat = 95 ∨ c.toNat = 46 := by
  have h := letters_all c.toNat c.toNat_lt
  rwa [show UInt8.ofNat c.toNat = c from by simp] at h

set_option maxRecDepth 100000 in
set_option maxHeartbeats 4000000 in
theorem rf_mayName (w : World) (s : ByteArray) (hs : s.size ≤ 9223372036854775807) :
    Calls Tryz.prog 58 #[.string s] w fun e w' => e = .returned (.bool (mayName s.data.toList)) ∧ w = w' := by
  go_enter Tryz.func58, Tryz.ntmps58
  go_wp2
  go_loop [3] (fun i => ∃ k : Nat, k ≤ s.size ∧ i = .int .i64 k ∧ (s.data.toList.take k).all (fun c => letters.contains c) = true) (fun i => s.size - (intOf i).toNat)
  case atStart => exact ⟨0, by omega, rfl, by simp⟩
  case round =>
    obtain ⟨k, hk, rfl, hall⟩ := hrel
    have HALL := Lib.hid hall
    clear hall
    by_cases hlt : k < s.size
    · have hsz := size_toList s
      have HT := Lib.hid (show s.data.toList.take (k + 1) = s.data.toList.take k ++ [s[k]] by rw [List.take_succ_eq_append_getElem (by omega)]; rfl)
      have hm := letters_at s[k]
      have hcl := s[k].toNat_lt
      cases hc : letters.contains s[k]
      · have HB := Lib.hid (show mayName s.data.toList = false by
          unfold mayName
          have : s.data.toList.all (fun c => letters.contains c) = false := by
            rw [List.all_eq_false]
            exact ⟨s[k], by rw [show s[k] = s.data.toList[k]'(by omega) from rfl]; exact List.getElem_mem _, by rw [hc]; simp⟩
          rw [this]; simp)
        have hno : ¬ ((97 ≤ s[k].toNat ∧ s[k].toNat ≤ 122) ∨ (65 ≤ s[k].toNat ∧ s[k].toNat ≤ 90) ∨ (48 ≤ s[k].toNat ∧ s[k].toNat ≤ 57) ∨ s[k].toNat = 45 ∨ s[k].toNat = 95 ∨ s[k].toNat = 46) := by rw [← hm, hc]; simp
        have HNO := Lib.hid hno
        clear hm hc hno
        go_wp2
        all_goals try (exfalso; have := HNO.out; omega)
        all_goals try (go_ret; exact ⟨ret_bool (a := false) HB.out.symm, rfl⟩)
        all_goals (exfalso; have hno := HNO.out; simp only [Bool.not_eq_eq_eq_not, Bool.not_false, decide_eq_true_eq, beq_iff_eq] at *; omega)
      · have hyes := hm.1 hc
        have HC := Lib.hid hc
        have HK : Hid (((s.data.toList.take (k + 1)).all fun c => letters.contains c) = true) := Lib.hid (by rw [HT.out, List.all_append, HALL.out, Bool.true_and]; show (letters.contains s[k] && true) = true; rw [HC.out]; rfl)
        clear hm hc HT HC
        rcases hyes with h | h | h | h | h | h
        all_goals try obtain ⟨ha, hb⟩ := h
        all_goals
          go_wp2
          all_goals first
            | (exfalso; omega)
            | (go_round
               case rel => exact ⟨k + 1, by omega, by go_num, HK.out⟩
               case measure => simp [intOf]; omega)
    · have HM := Lib.hid (show mayName s.data.toList = (decide (1 ≤ s.size) && decide (s.size ≤ 24)) by
        have h := HALL.out
        rw [List.take_of_length_le (by rw [size_toList]; omega)] at h
        unfold mayName
        rw [h, size_toList, Bool.and_true])
      go_wp2
      all_goals (go_ret; refine ⟨ret_bool ?_, rfl⟩; rw [HM.out, Bool.eq_iff_iff]; simp only [Bool.and_eq_true, decide_eq_true_eq, Bool.false_eq_true, false_iff]; omega)
end Go.Proofs.YtppghhophaobdaaGreatDoor
