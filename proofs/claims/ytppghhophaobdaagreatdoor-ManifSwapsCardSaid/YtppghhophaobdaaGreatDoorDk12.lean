/- The walk of Files. -/
import Derived.Test.YtppghhophaobdaaGreatDoorDk11
import Derived.Test.YtppghhophaobdaaGreatDoorNms
namespace Go.Proofs.YtppghhophaobdaaGreatDoor
open Go.RowKit Go.Maps Go.Sort

/-- Files as cells. -/
def fileCells (l : Fs) : List Value := l.flatMap fun f => [encStr f.name, encStr f.firm, encStr f.pend]
theorem fileCells_length (l : Fs) : (fileCells l).length = l.length * 3 := by
  induction l with
  | nil => rfl
  | cons x l ih => simp only [fileCells, List.flatMap_cons, List.length_append, List.length_cons, List.length_nil] at ih ⊢; omega
theorem fileCells_get (l : Fs) (i : Nat) (h : i < l.length) : (fileCells l)[i * 3]? = some (encStr l[i].name) ∧ (fileCells l)[i * 3 + 1]? = some (encStr l[i].firm) ∧ (fileCells l)[i * 3 + 2]? = some (encStr l[i].pend) := by
  induction l generalizing i with
  | nil => simp at h
  | cons x l ih =>
    rcases i with _ | i
    · simp [fileCells]
    · have := ih i (by simpa using h)
      simp only [fileCells, List.flatMap_cons, List.getElem_cons_succ] at this ⊢
      rw [show (i + 1) * 3 = i * 3 + 1 + 1 + 1 from by omega]
      simpa using this
theorem fileCells_snoc (l : Fs) (f : FileS) : fileCells (l ++ [f]) = fileCells l ++ [encStr f.name, encStr f.firm, encStr f.pend] := by simp [fileCells]

/-- A slice that the call owns, and that holds files. -/
def OwnFiles (w : World) (v : Value) (l : Fs) : Prop := w.ownsRow 0 91 3 v l.length (fileCells l)
theorem enc_data (l : List UInt8) : (⟨l.toArray⟩ : ByteArray).data.toList = l := by simp
theorem OwnFiles.at {w : World} {v : Value} {l : Fs} (h : OwnFiles w v l) : FilesAt w v l := by
  rcases h.2 with ⟨hv, hn⟩ | ⟨g, cap, cur, hv, hh⟩
  · exact ⟨none, 0, by rw [hv, hn], .inl (List.eq_nil_of_length_eq_zero hn)⟩
  · subst hv
    refine ⟨_, cap, rfl, .inr ⟨g, 0, rfl, fun i hi => ?_⟩⟩
    obtain ⟨h1, h2, h3⟩ := fileCells_get l i hi
    refine ⟨_, _, _, enc_data _, enc_data _, enc_data _, ?_⟩
    rw [Nat.zero_add, World.ownsRow.cellAt h (i * 3) (by omega), World.ownsRow.cellAt h (i * 3 + 1) (by omega), World.ownsRow.cellAt h (i * 3 + 2) (by omega)]
    exact ⟨h1, h2, h3⟩
theorem FilesAt.kept {S : Nat → Prop} {w w' : World} {sv : Value} {l : Fs} (h : FilesAt w sv l) (hf : Fr S w w') (hs : ∀ g, sv.ownBlock = some g → ¬ S g) : FilesAt w' sv l := by
  obtain ⟨a, c, rfl, h | ⟨b, o, rfl, h⟩⟩ := h
  · exact ⟨a, c, rfl, .inl h⟩
  · refine ⟨_, c, rfl, .inr ⟨b, o, rfl, fun i hi => ?_⟩⟩
    obtain ⟨x, y, z, e1, e2, e3, h1, h2, h3⟩ := h i hi
    exact ⟨x, y, z, e1, e2, e3, hf.cellAt h1 (hs b rfl), hf.cellAt h2 (hs b rfl), hf.cellAt h3 (hs b rfl)⟩
theorem FilesAt.pure {w w' : World} {sv : Value} {l : Fs} (h : FilesAt w sv l) (hb : Below w.heap.size w w') : FilesAt w' sv l := h.kept (Fr.pure (S := fun _ => False) hb) (fun _ _ h => h)
theorem Tryz.infoFile : (Tryz.prog.info? 91).map (fun i => (i.zero, i.size, i.bytes)) = some (some (.agg #[.string ⟨#[]⟩, .string ⟨#[]⟩, .string ⟨#[]⟩]), 3, 48) := by kernel_rfl

theorem enc_of {x : ByteArray} {l : List UInt8} (h : x.data.toList = l) : Value.string x = encStr l := by unfold encStr; rw [← h]

set_option maxRecDepth 100000 in
set_option maxHeartbeats 2000000 in
theorem dk_files (w : World) (p b : Nat) (st : DkSt) (h : IsDk w p b st) :
    Calls Tryz.prog 18 #[.pointer (some ⟨p, 0, none⟩)] w fun e w' => ∃ v, e = .returned v ∧ OwnFiles w' v st.fs ∧ (∀ g, v.ownBlock = some g → w.heap.size ≤ g) ∧ Below w.heap.size w w' := by
  have H := Lib.hid h
  have hp := h.lt
  have hbl := h.own.lt
  have hfew := h.ok.fs.few
  clear h
  go_enter Tryz.func18, Tryz.ntmps18
  go_wp2_with fail
  refine (dk_names w p b st H.out).mono ?_
  rintro e w1 ⟨v, rfl, hown, hb1⟩
  obtain ⟨ga, gc, rfl, _, hrow⟩ := row_names hown
  have HR := Lib.hid hrow
  have HB1 := Lib.hid hb1
  have hs1 := hb1.size
  clear hown hrow hb1
  rename_i hnl
  clear hnl
  go_wp2
  go_loopw [3, 12] (fun v i wr => ∃ k : Nat, i = .int .i64 k ∧ k ≤ st.fs.length ∧ wr.ownsRow w1.heap.size 91 3 v k (fileCells (st.fs.take k)) ∧ Below w1.heap.size w1 wr) (fun _ i _ => st.fs.length - (intOf i).toNat)
  case atStart => exact ⟨0, rfl, by omega, World.ownsRow_nil _ _ _ _, Below.refl _ _⟩
  case round =>
    obtain ⟨k, rfl, hk, hown, hb⟩ := hrel
    have hsz := hb.size
    obtain ⟨a0, n0, c0, rfl⟩ := own_shape hown
    have HO := Lib.hid hown
    have HB := Lib.hid hb
    clear hown hb
    by_cases hlt : k < st.fs.length
    · obtain ⟨g, rfl, hg, hcell⟩ := HR.out k (by simpa using hlt)
      have hcell := (HB.out.cell (p := ⟨g, k, none⟩) (ltOfCell hcell)).trans hcell
      rw [List.getElem_map] at hcell
      have hdk : IsDk wr p b st := H.out.pure (HB1.out.trans (HB.out.mono HB1.out.size))
      have hmem : fsGet st.fs st.fs[k].name = some st.fs[k] := by
        have e : st.fs = st.fs.take k ++ st.fs[k] :: st.fs.drop (k + 1) := by rw [List.getElem_cons_drop, List.take_append_drop]
        have := get_mid (A := st.fs.take k) (f := st.fs[k]) (B := st.fs.drop (k + 1)) (by rw [← e]; exact hdk.ok.fs.sorted)
        rw [← e] at this; exact this
      have hname := hdk.ok.fs.names st.fs[k] (List.getElem_mem hlt)
      obtain ⟨x, hx⟩ : ∃ x : ByteArray, x = ⟨st.fs[k].name.toArray⟩ := ⟨_, rfl⟩
      have hxl : x.data.toList = st.fs[k].name := by rw [hx]
      rw [← hx] at hcell
      obtain ⟨f1, f2, hlook, hgot⟩ := look_plain wr b st.fs hdk.own x (by have := size_of_list hxl; unfold maxLen; omega)
      unfold GotFile at hgot
      rw [hxl, hmem] at hgot
      have E := Lib.hid (And.intro (enc_of hxl) (And.intro (enc_of hgot.1) (enc_of hgot.2)))
      obtain ⟨d0, d1, d2, d3⟩ := hdk.cs
      have HO1 := Lib.hid ((HO.out.alloc (.cells #[.string f1, .string f2] 113)).alloc (.cells #[.string x, .string f1, .string f2] 91))
      obtain ⟨i0, hi, hz0, hz1, hz2⟩ := info_parts Tryz.infoFile
      have HI := Lib.hid hi
      have HZ0 := Lib.hid hz0
      have HZ1 := Lib.hid hz1
      have HZ2 := Lib.hid hz2
      clear hi hz0 hz1 hz2 hx hxl hgot hmem hdk d1 d2 d3
      go_wp2_with (first
        | (refine wpList_append_lies _ rfl _ _ 22 rfl w1.heap.size 91 i0 _ 3 48 Tryz.underlying22 HI.out HZ0.out HZ1.out HZ2.out rfl (by omega) _ k _ rfl HO1.out ⟨wr.heap.size + 1, 0, none⟩ 1 1 [.string x, .string f1, .string f2] rfl rfl (cells_new rfl (by simp)) (by simp [Value.oneCell']) (by omega) (by unfold maxLen; omega) (by omega) (by simp; omega) (wr.heap.size + 1 + 1) (by simp) ?_; intro gg cap w8 hown8 hgrow8 hat8 hlt8))
      go_roundw
      case rel =>
        refine ⟨k + 1, by go_num, by omega, ?_, ?_⟩
        · rw [List.take_succ_eq_append_getElem hlt, fileCells_snoc, ← E.out.1, ← E.out.2.1, ← E.out.2.2]; exact hown8
        · exact ((HB.out.alloc hsz _).alloc (by simp; omega) _).grown hgrow8 (by simp; omega) (fun j e => own_ge HO.out (by exact e))
      case measure => simp [intOf]; omega
    · have hkl : k = st.fs.length := by omega
      go_wp2
      go_ret
      have ho := HO.out
      rw [hkl, List.take_length] at ho
      exact ⟨_, rfl, ownsRow_base ho (fun _ _ => Nat.zero_le _), fun j e => by have := own_ge ho e; omega, HB1.out.trans (HB.out.mono HB1.out.size)⟩

end Go.Proofs.YtppghhophaobdaaGreatDoor
