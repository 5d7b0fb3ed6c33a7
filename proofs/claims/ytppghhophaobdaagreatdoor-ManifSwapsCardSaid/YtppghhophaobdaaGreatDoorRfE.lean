/- The reference's disk: append at a walk; at, Used, goes, find, MayName, Read, Cut. -/
import Derived.Test.YtppghhophaobdaaGreatDoorRfD
namespace Go.Proofs.YtppghhophaobdaaGreatDoor
open Go.RowKit Go.Maps Go.Sort

set_option maxRecDepth 100000 in
theorem wp_rfapp {o : Oper} {a : Act} {w : World} {K : Act → World → Prop} {Q : Exit → Act → World → Prop} (s x : Operand)
    (ho : o.op = .call { callee := .builtin .append, args := #[s, x], argTypes := #[22, 22] })
    (v : Value) (A : Fs) (hs : a.eval s = v) (hown : OwnFiles w v A) (sv : Value) (B : Fs) (hx : a.eval x = sv) (hB : FilesAt w sv B) (hn : A.length + B.length ≤ 1000000)
    (h : ∀ v' w', OwnFiles w' v' (A ++ B) → w.grownBy w' v.ownBlock → (v'.ownBlock = v.ownBlock ∨ v'.ownBlock = some w.heap.size) → (v ≠ .slice none 0 0 → v' ≠ .slice none 0 0) → K (a.put o.dst v') w') : o.wp Tryz.prog a w K Q := by
  obtain ⟨v', w', hrun, h2, h3, h4, h5⟩ := rf_app_run w o.type v A hown sv B hB hn
  unfold Oper.wp execOp
  simp only [ho, resolve, invoke, builtin, Sem.run_bind, Sem.run_pure, Result.andThen_ok, List.map_toArray, List.map_cons, List.map_nil, hs, hx, hrun]
  exact h v' w' h2 h3 h4 h5

theorem wpList_rfapp {ops : Array Oper} {rest : List Oper} {o : Oper} {a : Act} {w : World} {Q : Exit → Act → World → Prop} (hgd : o.guard = none) (s x : Operand)
    (ho : o.op = .call { callee := .builtin .append, args := #[s, x], argTypes := #[22, 22] })
    (v : Value) (A : Fs) (hs : a.eval s = v) (hown : OwnFiles w v A) (sv : Value) (B : Fs) (hx : a.eval x = sv) (hB : FilesAt w sv B) (hn : A.length + B.length ≤ 1000000)
    (h : ∀ v' w', OwnFiles w' v' (A ++ B) → w.grownBy w' v.ownBlock → (v'.ownBlock = v.ownBlock ∨ v'.ownBlock = some w.heap.size) → (v ≠ .slice none 0 0 → v' ≠ .slice none 0 0) → wpList Tryz.prog ops Q rest (a.put o.dst v') w') : wpList Tryz.prog ops Q (o :: rest) a w :=
  wpList_plain hgd fun _ hK => wp_rfapp s x ho v A hs hown sv B hx hB hn fun v' w' h2 h3 h4 h5 => hK _ _ (h v' w' h2 h3 h4 h5)

theorem step_rfapp {ops : Array Oper} {o : Oper} {a : Act} {w : World} {K : Act → World → Prop} {Q : Exit → Act → World → Prop} {E : Prop} (hgd : o.guard = none) (s x : Operand)
    (ho : o.op = .call { callee := .builtin .append, args := #[s, x], argTypes := #[22, 22] })
    (v : Value) (A : Fs) (hs : a.eval s = v) (hown : OwnFiles w v A) (sv : Value) (B : Fs) (hx : a.eval x = sv) (hB : FilesAt w sv B) (hn : A.length + B.length ≤ 1000000)
    (h : ∀ v' w', OwnFiles w' v' (A ++ B) → w.grownBy w' v.ownBlock → (v'.ownBlock = v.ownBlock ∨ v'.ownBlock = some w.heap.size) → (v ≠ .slice none 0 0 → v' ≠ .slice none 0 0) → K (a.put o.dst v') w') :
    if Region.wanted o (yielded ops a.tmps) = true then Oper.wp Tryz.prog o a w K Q else E := by
  have hw : Region.wanted o (yielded ops a.tmps) = true := by simp [Region.wanted, hgd]
  rw [if_pos hw]
  exact wp_rfapp s x ho v A hs hown sv B hx hB hn h

theorem atN_step {fs : Fs} {n : List UInt8} {k : Nat} (hk : k < fs.length) (hall : ∀ j (h : j < fs.length), j < k → bytesBefore fs[j].name n = true) (hb : bytesBefore fs[k].name n = false) : atN fs n = k := by
  induction fs generalizing k with
  | nil => simp at hk
  | cons f r ih =>
    rw [atN_cons]
    rcases k with _ | k
    · rw [if_neg (by simp at hb; simp [hb])]
    · have h0 : bytesBefore f.name n = true := hall 0 (by simp) (by omega)
      rw [if_pos h0, ih (k := k) (by simpa using hk) (fun j hj hlt => hall (j + 1) (by simpa using hj) (by omega)) (by simpa using hb)]
theorem atN_end {fs : Fs} {n : List UInt8} (hall : ∀ j (h : j < fs.length), bytesBefore fs[j].name n = true) : atN fs n = fs.length := by
  induction fs with
  | nil => rfl
  | cons f r ih =>
    have h0 : bytesBefore f.name n = true := hall 0 (by simp)
    rw [atN_cons, if_pos h0, ih (fun j hj => hall (j + 1) (by simpa using hj)), List.length_cons]
theorem isN_at {fs : Fs} {n : List UInt8} {k : Nat} (h : atN fs n = k) (hk : k < fs.length) : isN fs n = (fs[k].name == n) := by
  unfold isN; rw [h, List.getElem?_eq_getElem hk]
theorem isN_end {fs : Fs} {n : List UInt8} (h : atN fs n = fs.length) : isN fs n = false := by
  unfold isN; rw [h, List.getElem?_eq_none (Nat.le_refl _)]

theorem ret_nb {a b : Nat} {p q : Bool} (h : a = b) (k : p = q) : Ending.returned (.tuple #[.int .i64 (a : Int), .bool p]) = .returned (.tuple #[.int .i64 (b : Int), .bool q]) := by rw [h, k]
theorem less_before (a b : ByteArray) (x y : List UInt8) (ha : a.data.toList = x) (hb : b.data.toList = y) : Op.bytesLess a.toList b.toList = bytesBefore x y := by
  rw [ByteArray.toList_eq, ByteArray.toList_eq, ha, hb, bytesLess_before]

set_option maxRecDepth 100000 in
set_option maxHeartbeats 2000000 in
theorem rf_at (w : World) (x g c : Nat) (st : DkSt) (h : IsRf w x g c st) (n : ByteArray) :
    Calls Tryz.prog 137 #[.pointer (some ⟨x, 0, none⟩), .string n] w fun e w' => e = .returned (.tuple #[.int .i64 ((atN st.fs n.data.toList : Nat) : Int), .bool (isN st.fs n.data.toList)]) ∧ ∃ q, w' = w.drewN q := by
  have H := Lib.hid h
  have hle := h.le
  have hf64 := h.ok.fs.few
  obtain ⟨c0, _, _, _⟩ := h.cs
  clear h
  go_enter Tryz.func137, Tryz.ntmps137
  go_wp2
  go_loop [6] (fun i => ∃ k : Nat, k ≤ st.fs.length ∧ i = .int .i64 k ∧ ∀ j (h : j < st.fs.length), j < k → bytesBefore st.fs[j].name n.data.toList = true) (fun i => st.fs.length - (intOf i).toNat)
  case atStart => exact ⟨0, by omega, rfl, fun j _ h => by omega⟩
  case round =>
    obtain ⟨k, hk, rfl, hall⟩ := hrel
    have HALL := Lib.hid hall
    clear hall
    by_cases hlt : k < st.fs.length
    · obtain ⟨a, b, d, e1, e2, e3, h1, h2, h3⟩ := H.out.at k hlt
      have hB := less_before a n _ _ e1 rfl
      have E1 := Lib.hid e1
      clear e1 e2 e3 h2 h3
      cases hbb : bytesBefore st.fs[k].name n.data.toList
      · rw [hbb] at hB
        have HAT := Lib.hid (atN_step hlt HALL.out hbb)
        have HIS := Lib.hid (isN_at HAT.out hlt)
        have HBB := Lib.hid hbb
        clear hbb
        have hdk : decide ((k : Int) < (st.fs.length : Int)) = true := by rw [decide_eq_true_iff]; omega
        cases heq : (st.fs[k].name == n.data.toList)
        · have hc : (a.toList == n.toList) = false := by rw [ByteArray.toList_eq, ByteArray.toList_eq, E1.out]; exact heq
          have HEQ := Lib.hid heq
          clear heq
          go_wp2_with fail
          go_quiet (fail)
          go_wp2
          go_ret2
          exact ⟨ret_nb (a := k) HAT.out.symm (HIS.out.trans HEQ.out).symm, _, rfl⟩
        · have hc : (a.toList == n.toList) = true := by rw [ByteArray.toList_eq, ByteArray.toList_eq, E1.out]; exact heq
          have HEQ := Lib.hid heq
          clear heq
          go_wp2_with fail
          go_quiet (fail)
          go_wp2
          go_ret2
          exact ⟨ret_nb (a := k) HAT.out.symm (HIS.out.trans HEQ.out).symm, _, rfl⟩
      · rw [hbb] at hB
        have HBB := Lib.hid hbb
        clear hbb
        go_wp2
        go_round
        case rel => exact ⟨k + 1, by omega, by go_num, fun j hj hjk => by
          rcases Nat.lt_or_eq_of_le (Nat.le_of_lt_succ hjk) with h | h
          · exact HALL.out j hj h
          · subst h; exact HBB.out⟩
        case measure => simp [intOf]; omega
    · have hkl : k = st.fs.length := by omega
      have HAT := Lib.hid (atN_end (n := n.data.toList) (fun j hj => HALL.out j hj (by omega)))
      have HIS := Lib.hid (isN_end HAT.out)
      have hdk : decide ((k : Int) < (st.fs.length : Int)) = false := by rw [decide_eq_false_iff_not]; omega
      have HKL := Lib.hid hkl
      clear hkl
      go_wp2_with fail
      go_quiet (fail)
      go_wp2
      go_ret2
      exact ⟨ret_nb (a := k) (HKL.out.trans HAT.out.symm) HIS.out.symm, _, rfl⟩

/-- What find tells. -/
def rfFind (st : DkSt) (n : List UInt8) : Nat × Int := if st.dark then (0, 45) else if isN st.fs n then (atN st.fs n, 0) else (0, 5)
theorem rfFind_dark {st : DkSt} {n : List UInt8} (h : st.dark = true) : rfFind st n = (0, 45) := by unfold rfFind; rw [if_pos h]
theorem rfFind_none {st : DkSt} {n : List UInt8} (h : st.dark = false) (k : isN st.fs n = false) : rfFind st n = (0, 5) := by unfold rfFind; rw [if_neg (by simp [h]), if_neg (by simp [k])]
theorem rfFind_some {st : DkSt} {n : List UInt8} (h : st.dark = false) (k : isN st.fs n = true) : rfFind st n = (atN st.fs n, 0) := by unfold rfFind; rw [if_neg (by simp [h]), if_pos k]
theorem ret_ni {a b : Nat} {p q : Int} (h : a = b) (k : p = q) : Ending.returned (.tuple #[.int .i64 (a : Int), .int .i64 p]) = .returned (.tuple #[.int .i64 (b : Int), .int .i64 q]) := by rw [h, k]

set_option maxRecDepth 100000 in
set_option maxHeartbeats 2000000 in
theorem rf_find (w : World) (x g c : Nat) (st : DkSt) (h : IsRf w x g c st) (n : ByteArray) :
    Calls Tryz.prog 134 #[.pointer (some ⟨x, 0, none⟩), .string n] w fun e w' => e = .returned (.tuple #[.int .i64 (((rfFind st n.data.toList).1 : Nat) : Int), .int .i64 (rfFind st n.data.toList).2]) ∧ ∃ q, w' = w.drewN q := by
  have H := Lib.hid h
  obtain ⟨_, _, _, c3⟩ := h.cs
  clear h
  cases hd : st.dark
  · rw [hd] at c3
    cases hi : isN st.fs n.data.toList
    · have HF := Lib.hid (rfFind_none hd hi)
      have HI := Lib.hid hi
      clear hi hd
      generalize rfFind st n.data.toList = r at *
      go_enter Tryz.func134, Tryz.ntmps134
      go_wp2_with fail
      refine (rf_at w x g c st H.out n).mono ?_
      rintro e w' ⟨rfl, q, rfl⟩
      rw [HI.out]
      go_wp2
      go_ret2
      exact ⟨ret_ni (a := 0) (by rw [HF.out]) (by rw [HF.out]), q, rfl⟩
    · have HF := Lib.hid (rfFind_some hd hi)
      have HI := Lib.hid hi
      clear hi hd
      generalize rfFind st n.data.toList = r at *
      go_enter Tryz.func134, Tryz.ntmps134
      go_wp2_with fail
      refine (rf_at w x g c st H.out n).mono ?_
      rintro e w' ⟨rfl, q, rfl⟩
      rw [HI.out]
      go_wp2
      go_ret2
      exact ⟨ret_ni (a := atN st.fs n.data.toList) (by rw [HF.out]) (by rw [HF.out]), q, rfl⟩
  · rw [hd] at c3
    have HF := Lib.hid (rfFind_dark (n := n.data.toList) hd)
    clear hd
    generalize rfFind st n.data.toList = r at *
    go_enter Tryz.func134, Tryz.ntmps134
    go_wp2
    go_ret2
    exact ⟨ret_ni (a := 0) (by rw [HF.out]) (by rw [HF.out]), 0, rfl⟩

theorem used_take_succ (fs : Fs) (k : Nat) (h : k < fs.length) : used (fs.take (k + 1)) = used (fs.take k) + fs[k].firm.length + fs[k].pend.length := by
  unfold used
  rw [List.take_succ_eq_append_getElem h, List.map_append, List.sum_append]
  simp; omega
theorem used_take_le (fs : Fs) (k : Nat) : used (fs.take k) ≤ used fs := by
  conv => rhs; rw [← List.take_append_drop k fs]
  unfold used
  rw [List.map_append, List.sum_append]; omega

set_option maxRecDepth 100000 in
set_option maxHeartbeats 2000000 in
theorem rf_used (w : World) (x g c : Nat) (st : DkSt) (h : IsRf w x g c st) :
    Calls Tryz.prog 139 #[.pointer (some ⟨x, 0, none⟩)] w fun e w' => e = .returned (.int .i64 (used st.fs : Int)) ∧ ∃ q, w' = w.drewN q := by
  have H := Lib.hid h
  have hle := h.le
  have hf64 := h.ok.fs.few
  have hu : (used st.fs : Int) ≤ 9223372036854775807 := by have := h.ok.fits; have := h.ok.cap1; omega
  clear h
  go_enter Tryz.func139, Tryz.ntmps139
  go_wp2
  go_loopw [3, 4] (fun v i wr => ∃ (k u : Nat), k ≤ st.fs.length ∧ i = .int .i64 k ∧ v = .int .i64 (u : Int) ∧ u = used (st.fs.take k) ∧ ∃ q, wr = w.drewN q) (fun _ i _ => st.fs.length - (intOf i).toNat)
  case atStart => exact ⟨0, 0, by omega, rfl, rfl, rfl, 0, rfl⟩
  case round =>
    obtain ⟨k, u, hk, rfl, rfl, hue, hwq⟩ := hrel
    have HQ := Lib.hid (show IsRf wr x g c st by obtain ⟨q, rfl⟩ := hwq; exact ⟨H.out.cell, H.out.own, H.out.le, H.out.ne, H.out.ok⟩)
    have HWQ := Lib.hid hwq
    clear hwq
    obtain ⟨c0, _, _, _⟩ := HQ.out.cs
    have HU := Lib.hid hue
    by_cases hlt : k < st.fs.length
    · obtain ⟨a, b, d, e1, e2, e3, h1, h2, h3⟩ := HQ.out.at k hlt
      have hus := used_take_succ st.fs k hlt
      have hul := used_take_le st.fs (k + 1)
      have hb : (b.size : Int) = st.fs[k].firm.length := by rw [size_of_list e2]
      have hd : (d.size : Int) = st.fs[k].pend.length := by rw [size_of_list e3]
      have hsum : (u : Int) + b.size + d.size ≤ 9223372036854775807 := by omega
      have HS := Lib.hid (show u + b.size + d.size = used (st.fs.take (k + 1)) by omega)
      have w1e : IntKind.i64.wrap ((u : Int) + (b.size : Int)) = (u : Int) + (b.size : Int) := IntWalk.i64_in _ (by omega)
      have w2e : IntKind.i64.wrap ((u : Int) + (b.size : Int) + (d.size : Int)) = (u : Int) + (b.size : Int) + (d.size : Int) := IntWalk.i64_in _ (by omega)
      clear hus hul hb hd e1 e2 e3 h1 hue
      go_wp2_with fail
      go_quiet (fail)
      go_wp2
      go_roundw
      case rel => exact ⟨k + 1, u + b.size + d.size, by omega, by go_num, by go_num, HS.out, by obtain ⟨q, e⟩ := HWQ.out; exact ⟨_, by rw [e, World.drewN_drewN]⟩⟩
      case measure => simp [intOf]; omega
    · clear hue
      go_wp2
      go_ret
      exact ⟨ret_int (a := (u : Int)) (by rw [HU.out, List.take_of_length_le (by omega)]), HWQ.out⟩
end Go.Proofs.YtppghhophaobdaaGreatDoor
