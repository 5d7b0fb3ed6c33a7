/- The string's row of the table; where own rows lie. No function of this seat. -/
import Derived.Test.YteikdcobpfohcaaGreatDoorMAa
import Derived.Test.YteikdcobpfohcaaGreatDoorChecked
import Derived.Deep.AppendLies
import Derived.Test.YteikdcobpfohcaaGreatDoorMkDk11
import Derived.Test.YteikdcobpfohcaaGreatDoorMAe
import Derived.Test.YteikdcobpfohcaaGreatDoorMkStn
import Derived.Test.YteikdcobpfohcaaGreatDoorMFd
import Derived.Test.YteikdcobpfohcaaGreatDoorMAc
namespace Go.Proofs.YteikdcobpfohcaaGreatDoor
open Go.RowKit

theorem Tryz.infoStr : (Tryz.prog.info? 9).map (fun i => (i.zero, i.size, i.bytes)) = some (some (.string ⟨#[]⟩), 1, 16) := by kernel_rfl

theorem own_ge {w : World} {base : Nat} {e : TypeId} {size : Nat} {v : Value} {n : Nat} {xs : List Value} (h : w.ownsRow base e size v n xs) {g : Nat} (hg : v.ownBlock = some g) : base ≤ g := by
  obtain ⟨_, ⟨rfl, _⟩ | ⟨g', cap, cur, rfl, hb, _⟩⟩ := h
  · cases hg
  · cases hg; exact hb
end Go.Proofs.YteikdcobpfohcaaGreatDoor

/- The walk of Files. -/
namespace Go.Proofs.YteikdcobpfohcaaGreatDoor
open Go.RowKit Go.Maps Go.Sort

/-- Files as cells. -/
def fileCells (l : Fs) : List Value := l.flatMap fun f => [encStr f.name, encStr f.firm, encStr f.pend]
theorem fileCells_length (l : Fs) : (fileCells l).length = l.length * 3 := by
  induction l with
  | nil => rfl
  | cons x l ih => simp only [fileCells, List.flatMap_cons, List.length_append, List.length_cons, List.length_nil] at ih ⊢; omega
theorem fileCells_get (l : Fs) (i : Nat) (h : i < l.length) : (fileCells l)[i * 3]? = some (encStr l[i].name) ∧ (fileCells l)[i * 3 + 1]? = some (encStr l[i].firm) ∧ (fileCells l)[i * 3 + 2]? = some (encStr l[i].pend) := by
  induction l generalizing i with
  | nil => simp at h
  | cons x l ih =>
    rcases i with _ | i
    · simp [fileCells]
    · have := ih i (by simpa using h)
      simp only [fileCells, List.flatMap_cons, List.getElem_cons_succ] at this ⊢
      rw [show (i + 1) * 3 = i * 3 + 1 + 1 + 1 from by omega]
      simpa using this
theorem fileCells_snoc (l : Fs) (f : FileS) : fileCells (l ++ [f]) = fileCells l ++ [encStr f.name, encStr f.firm, encStr f.pend] := by simp [fileCells]

/-- A slice that the call owns, and that holds files. -/
def OwnFiles (w : World) (v : Value) (l : Fs) : Prop := w.ownsRow 0 59 3 v l.length (fileCells l)
theorem enc_data (l : List UInt8) : (⟨l.toArray⟩ : ByteArray).data.toList = l := by simp
theorem OwnFiles.at {w : World} {v : Value} {l : Fs} (h : OwnFiles w v l) : FilesAt w v l := by
  rcases h.2 with ⟨hv, hn⟩ | ⟨g, cap, cur, hv, hh⟩
  · exact ⟨none, 0, by rw [hv, hn], .inl (List.eq_nil_of_length_eq_zero hn)⟩
  · subst hv
    refine ⟨_, cap, rfl, .inr ⟨g, 0, rfl, fun i hi => ?_⟩⟩
    obtain ⟨h1, h2, h3⟩ := fileCells_get l i hi
    refine ⟨_, _, _, enc_data _, enc_data _, enc_data _, ?_⟩
    rw [Nat.zero_add, World.ownsRow.cellAt h (i * 3) (by omega), World.ownsRow.cellAt h (i * 3 + 1) (by omega), World.ownsRow.cellAt h (i * 3 + 2) (by omega)]
    exact ⟨h1, h2, h3⟩
theorem FilesAt.kept {S : Nat → Prop} {w w' : World} {sv : Value} {l : Fs} (h : FilesAt w sv l) (hf : Fr S w w') (hs : ∀ g, sv.ownBlock = some g → ¬ S g) : FilesAt w' sv l := by
  obtain ⟨a, c, rfl, h | ⟨b, o, rfl, h⟩⟩ := h
  · exact ⟨a, c, rfl, .inl h⟩
  · refine ⟨_, c, rfl, .inr ⟨b, o, rfl, fun i hi => ?_⟩⟩
    obtain ⟨x, y, z, e1, e2, e3, h1, h2, h3⟩ := h i hi
    exact ⟨x, y, z, e1, e2, e3, hf.cellAt h1 (hs b rfl), hf.cellAt h2 (hs b rfl), hf.cellAt h3 (hs b rfl)⟩
theorem FilesAt.pure {w w' : World} {sv : Value} {l : Fs} (h : FilesAt w sv l) (hb : Below w.heap.size w w') : FilesAt w' sv l := h.kept (Fr.pure (S := fun _ => False) hb) (fun _ _ h => h)
theorem Tryz.infoFile : (Tryz.prog.info? 59).map (fun i => (i.zero, i.size, i.bytes)) = some (some (.agg #[.string ⟨#[]⟩, .string ⟨#[]⟩, .string ⟨#[]⟩]), 3, 48) := by kernel_rfl

theorem enc_of {x : ByteArray} {l : List UInt8} (h : x.data.toList = l) : Value.string x = encStr l := by unfold encStr; rw [← h]

set_option maxRecDepth 100000 in
set_option maxHeartbeats 2000000 in
theorem dk_files (w : World) (p b : Nat) (st : DkSt) (h : IsDk w p b st) :
    Calls Tryz.prog 17 #[.pointer (some ⟨p, 0, none⟩)] w fun e w' => ∃ v, e = .returned v ∧ OwnFiles w' v st.fs ∧ (∀ g, v.ownBlock = some g → w.heap.size ≤ g) ∧ Below w.heap.size w w' := by
  have H := Lib.hid h
  have hp := h.lt
  have hbl := h.own.lt
  have hfew := h.ok.fs.few
  clear h
  go_enter Tryz.func17, Tryz.ntmps17
  go_wp2_with fail
  refine (dk_names w p b st H.out).mono ?_
  rintro e w1 ⟨v, rfl, hown, hb1⟩
  obtain ⟨ga, gc, rfl, _, hrow⟩ := row_names hown
  have HR := Lib.hid hrow
  have HB1 := Lib.hid hb1
  have hs1 := hb1.size
  clear hown hrow hb1
  rename_i hnl
  clear hnl
  go_wp2
  go_loopw [3, 12] (fun v i wr => ∃ k : Nat, i = .int .i64 k ∧ k ≤ st.fs.length ∧ wr.ownsRow w1.heap.size 59 3 v k (fileCells (st.fs.take k)) ∧ Below w1.heap.size w1 wr) (fun _ i _ => st.fs.length - (intOf i).toNat)
  case atStart => exact ⟨0, rfl, by omega, World.ownsRow_nil _ _ _ _, Below.refl _ _⟩
  case round =>
    obtain ⟨k, rfl, hk, hown, hb⟩ := hrel
    have hsz := hb.size
    obtain ⟨a0, n0, c0, rfl⟩ := own_shape hown
    have HO := Lib.hid hown
    have HB := Lib.hid hb
    clear hown hb
    by_cases hlt : k < st.fs.length
    · obtain ⟨g, rfl, hg, hcell⟩ := HR.out k (by simpa using hlt)
      have hcell := (HB.out.cell (p := ⟨g, k, none⟩) (ltOfCell hcell)).trans hcell
      rw [List.getElem_map] at hcell
      have hdk : IsDk wr p b st := H.out.pure (HB1.out.trans (HB.out.mono HB1.out.size))
      have hmem : fsGet st.fs st.fs[k].name = some st.fs[k] := by
        have e : st.fs = st.fs.take k ++ st.fs[k] :: st.fs.drop (k + 1) := by rw [List.getElem_cons_drop, List.take_append_drop]
        have := get_mid (A := st.fs.take k) (f := st.fs[k]) (B := st.fs.drop (k + 1)) (by rw [← e]; exact hdk.ok.fs.sorted)
        rw [← e] at this; exact this
      have hname := hdk.ok.fs.names st.fs[k] (List.getElem_mem hlt)
      obtain ⟨x, hx⟩ : ∃ x : ByteArray, x = ⟨st.fs[k].name.toArray⟩ := ⟨_, rfl⟩
      have hxl : x.data.toList = st.fs[k].name := by rw [hx]
      rw [← hx] at hcell
      obtain ⟨f1, f2, hlook, hgot⟩ := look_plain wr b st.fs hdk.own x (by have := size_of_list hxl; unfold maxLen; omega)
      unfold GotFile at hgot
      rw [hxl, hmem] at hgot
      have E := Lib.hid (And.intro (enc_of hxl) (And.intro (enc_of hgot.1) (enc_of hgot.2)))
      obtain ⟨d0, d1, d2, d3⟩ := hdk.cs
      have HO1 := Lib.hid ((HO.out.alloc (.cells #[.string f1, .string f2] 93)).alloc (.cells #[.string x, .string f1, .string f2] 59))
      obtain ⟨i0, hi, hz0, hz1, hz2⟩ := info_parts Tryz.infoFile
      have HI := Lib.hid hi
      have HZ0 := Lib.hid hz0
      have HZ1 := Lib.hid hz1
      have HZ2 := Lib.hid hz2
      clear hi hz0 hz1 hz2 hx hxl hgot hmem hdk d1 d2 d3
      go_wp2_with (first
        | (refine wpList_append_lies _ rfl _ _ 54 rfl w1.heap.size 59 i0 _ 3 48 Tryz.underlying54 HI.out HZ0.out HZ1.out HZ2.out rfl (by omega) _ k _ rfl HO1.out ⟨wr.heap.size + 1, 0, none⟩ 1 1 [.string x, .string f1, .string f2] rfl rfl (cells_new rfl (by simp)) (by simp [Value.oneCell']) (by omega) (by unfold maxLen; omega) (by omega) (by simp; omega) (wr.heap.size + 1 + 1) (by simp) ?_; intro gg cap w8 hown8 hgrow8 hat8 hlt8))
      go_roundw
      case rel =>
        refine ⟨k + 1, by go_num, by omega, ?_, ?_⟩
        · rw [List.take_succ_eq_append_getElem hlt, fileCells_snoc, ← E.out.1, ← E.out.2.1, ← E.out.2.2]; exact hown8
        · exact ((HB.out.alloc hsz _).alloc (by simp; omega) _).grown hgrow8 (by simp; omega) (fun j e => own_ge HO.out (by exact e))
      case measure => simp [intOf]; omega
    · have hkl : k = st.fs.length := by omega
      go_wp2
      go_ret
      have ho := HO.out
      rw [hkl, List.take_length] at ho
      exact ⟨_, rfl, ownsRow_base ho (fun _ _ => Nat.zero_le _), fun j e => by have := own_ge ho e; omega, HB1.out.trans (HB.out.mono HB1.out.size)⟩

end Go.Proofs.YteikdcobpfohcaaGreatDoor

/- The walk of List; texts in memory. -/
namespace Go.Proofs.YteikdcobpfohcaaGreatDoor
open Go.RowKit Go.Maps Go.Sort

/-- A slice of own texts. -/
def OwnTexts (w : World) (base : Nat) (v : Value) (l : List (List UInt8)) : Prop := w.ownsRow base 9 1 v l.length (l.map encStr)

set_option maxHeartbeats 400000 in
theorem dk_list (w : World) (p b : Nat) (st : DkSt) (h : IsDk w p b st) :
    Calls Tryz.prog 26 #[.pointer (some ⟨p, 0, none⟩)] w fun e w' => Below w.heap.size w w' ∧
      (if st.dark then e = .returned (.tuple #[.slice none 0 0, .int .i64 45]) else ∃ v, e = .returned (.tuple #[v, .int .i64 0]) ∧ OwnTexts w' w.heap.size v (st.fs.map (·.name))) := by
  have H := Lib.hid h
  clear h
  cases hd : st.dark
  · have HD := Lib.hid hd
    clear hd
    go_enter Tryz.func26, Tryz.ntmps26
    go_wp2_with fail
    refine (dk_down _ p b st H.out).mono ?_
    rintro e w1 ⟨rfl, rfl⟩
    rw [HD.out]
    go_wp2_with fail
    refine (dk_names _ p b st H.out).mono ?_
    rintro e w1 ⟨v, rfl, ho, hb⟩
    have HO := Lib.hid ho
    have HB := Lib.hid hb
    clear ho hb
    go_wp2
    refine bodyPost_ret (v := .tuple #[v, .int .i64 0]) (by simp [results, Tryz.results26, go_sem]) rfl ?_
    exact ⟨HB.out, v, rfl, by have := HO.out; unfold OwnTexts; rw [List.length_map]; exact this⟩
  · have HD := Lib.hid hd
    clear hd
    go_enter Tryz.func26, Tryz.ntmps26
    go_wp2_with fail
    refine (dk_down _ p b st H.out).mono ?_
    rintro e w1 ⟨rfl, rfl⟩
    rw [HD.out]
    go_wp2
    refine bodyPost_ret (v := .tuple #[.slice none 0 0, .int .i64 45]) (by simp [results, Tryz.results26, go_sem]) rfl ?_
    exact ⟨Below.refl _ _, rfl⟩
end Go.Proofs.YteikdcobpfohcaaGreatDoor

/- The walk of store.List. -/
namespace Go.Proofs.YteikdcobpfohcaaGreatDoor
open Go.RowKit Go.Sort Go.Shelf

theorem Tryz.infoI64 : (Tryz.prog.info? 2).map (fun i => (i.zero, i.size, i.bytes)) = some (some (.int .i64 0), 1, 8) := by kernel_rfl

def numV (n : Nat) : Value := .int .i64 (n : Int)

/-- A slice of own numbers. -/
def OwnNums (w : World) (base : Nat) (v : Value) (l : List Nat) : Prop := w.ownsRow base 2 1 v l.length (l.map numV)
/-- What List tells. -/
def NumsPost (st : DkSt) (w : World) (e : Ending) (w' : World) : Prop := Below w.heap.size w w' ∧
  (if st.dark then e = .returned (.tuple #[.slice none 0 0, .int .i64 45]) else ∃ v, e = .returned (.tuple #[v, .int .i64 0]) ∧ OwnNums w' w.heap.size v (snapNums (st.fs.map (·.name))))

set_option maxRecDepth 100000 in
set_option maxHeartbeats 2000000 in
theorem st_list (w : World) (hl : Libz w) (p b : Nat) (st : DkSt) (h : IsDk w p b st) :
    Calls Tryz.prog 7 #[.pointer (some ⟨p, 0, none⟩)] w fun e w' => NumsPost st w e w' := by
  have H := Lib.hid h
  have HL := Lib.hid hl
  have hfew := h.ok.fs.few
  have hnm := Lib.hid h.ok.fs.names
  clear h hl
  cases hd : st.dark
  · have HD := Lib.hid hd
    clear hd
    go_enter Tryz.func7, Tryz.ntmps7
    go_wp2_with fail
    refine (dk_list w p b st H.out).mono ?_
    rintro e w1 ⟨hb1, h1⟩
    rw [HD.out, if_neg (by decide)] at h1
    obtain ⟨v, rfl, hown⟩ := h1
    obtain ⟨ns, hns⟩ : ∃ ns, ns = st.fs.map (·.name) := ⟨_, rfl⟩
    rw [← hns] at hown
    have hnl : ns.length ≤ 64 := by rw [hns, List.length_map]; exact hfew
    have hnz := Lib.hid (show ∀ x ∈ ns, x.length ≤ 24 from fun x hx => by
      rw [hns] at hx
      obtain ⟨f, hf, rfl⟩ := List.mem_map.1 hx
      exact hnm.out f hf)
    have HN := Lib.hid hns
    clear hns
    obtain ⟨ga, gc, rfl, _, hrow⟩ := row_names hown
    rename_i hlen
    clear hlen
    have HR := Lib.hid hrow
    have HB1 := Lib.hid hb1
    have HL1 := Lib.hid (HL.out.pure hb1)
    clear hown hrow hb1
    go_wp2
    go_loopw [6, 21] (fun v i wr => ∃ k : Nat, i = .int .i64 k ∧ k ≤ ns.length ∧ Hid (OwnNums wr w1.heap.size v (snapNums (ns.take k))) ∧ Hid (Below w1.heap.size w1 wr)) (fun _ i _ => ns.length - (intOf i).toNat)
    case atStart => exact ⟨0, rfl, by omega, Lib.hid (World.ownsRow_nil _ _ _ _), Lib.hid (Below.refl _ _)⟩
    case round =>
      obtain ⟨k, rfl, hk, HO, HB⟩ := hrel
      have hsz := HB.out.size
      obtain ⟨a0, n0, c0, rfl⟩ := own_shape HO.out
      by_cases hlt : k < ns.length
      · obtain ⟨g, rfl, hg, hcell⟩ := HR.out k hlt
        have hcell := (HB.out.cell (p := ⟨g, k, none⟩) (ltOfCell hcell)).trans hcell
        obtain ⟨x, hx⟩ : ∃ x : ByteArray, x = ⟨ns[k].toArray⟩ := ⟨_, rfl⟩
        have hxl : x.data.toList = ns[k] := by rw [hx]
        rw [← hx] at hcell
        have hxz : x.size ≤ 24 := by rw [size_of_list hxl]; exact hnz.out _ (List.getElem_mem hlt)
        have HX := Lib.hid hxl
        have HLr := Lib.hid (HL1.out.pure HB.out)
        clear hx hxl
        go_wp2_with fail
        refine (snamed_any wr HLr.out x (by omega)).mono ?_
        rintro e w2 ⟨⟨r, ⟨m, hm, hs, rfl⟩ | ⟨hs, rfl⟩, rfl⟩, hb2⟩
        · have HS := Lib.hid (show snapNums (ns.take (k + 1)) = snapNums (ns.take k) ++ [m] from by
            rw [snapNums_step hlt, ← HX.out, hs, snapNum_name m hm]; rfl)
          have hs2 := hb2.size
          have HO2 := Lib.hid (((Fr.pure (S := fun _ => False) hb2).ownsRow HO.out (fun _ _ h => h)).alloc (.cells #[.int .i64 (m : Int)] 2))
          have HB2 := Lib.hid (HB.out.trans (hb2.mono hsz))
          have hcnt : (snapNums (ns.take k)).length ≤ 64 := by have := snapNums_le (ns.take k); rw [List.length_take] at this; omega
          clear hb2 hs
          obtain ⟨i0, hi, hz0, hz1, hz2⟩ := info_parts Tryz.infoI64
          have HI := Lib.hid hi
          have HZ0 := Lib.hid hz0
          have HZ1 := Lib.hid hz1
          have HZ2 := Lib.hid hz2
          clear hi hz0 hz1 hz2
          go_wp2_with (first
            | (refine wpList_append_lies _ rfl _ _ 26 rfl w1.heap.size 2 i0 _ 1 8 Tryz.underlying26 HI.out HZ0.out HZ1.out HZ2.out rfl (by omega) _ (snapNums (ns.take k)).length _ rfl HO2.out ⟨w2.heap.size, 0, none⟩ 1 1 [.int .i64 (m : Int)] rfl rfl (cells_new rfl rfl) (by simp [Value.oneCell']) (by omega) (by unfold maxLen; omega) (by omega) (by simp; omega) (w2.heap.size + 1) (by simp) ?_; intro gg cap w8 hown8 hgrow8 hat8 hlt8))
          go_roundw
          case rel =>
            refine ⟨k + 1, by go_num, by omega, Lib.hid ?_, Lib.hid ?_⟩
            · unfold OwnNums
              rw [HS.out, List.map_append, List.length_append]
              exact hown8
            · exact (HB2.out.alloc (by omega) _).grown hgrow8 (by simp; omega) (fun j e => own_ge HO.out (by exact e))
          case measure => simp [intOf]; omega
        · have HS := Lib.hid (show snapNums (ns.take (k + 1)) = snapNums (ns.take k) from by
            rw [snapNums_step hlt, ← HX.out, snapNum_none.2 hs]; simp)
          have HO2 := Lib.hid ((Fr.pure (S := fun _ => False) hb2).ownsRow HO.out (fun _ _ h => h))
          have HB2 := Lib.hid (HB.out.trans (hb2.mono hsz))
          clear hb2 hs
          go_wp2
          go_roundw
          case rel =>
            refine ⟨k + 1, by go_num, by omega, Lib.hid ?_, HB2⟩
            unfold OwnNums
            rw [HS.out]; exact HO2.out
          case measure => simp [intOf]; omega
      · have hkl : k = ns.length := by omega
        have HO2 := Lib.hid (show OwnNums wr w1.heap.size (.slice a0 n0 c0) (snapNums ns) from by have := HO.out; rw [hkl, List.take_length] at this; exact this)
        go_wp2
        refine bodyPost_ret (v := .tuple #[.slice a0 n0 c0, .int .i64 0]) (by simp [results, Tryz.results7, go_sem]) rfl ?_
        refine ⟨HB1.out.trans (HB.out.mono HB1.out.size), ?_⟩
        rw [HD.out, if_neg (by decide), ← HN.out]
        exact ⟨_, rfl, ownsRow_base HO2.out (fun g e => by have := own_ge HO2.out e; have := HB1.out.size; omega)⟩
  · have HD := Lib.hid hd
    clear hd
    go_enter Tryz.func7, Tryz.ntmps7
    go_wp2_with fail
    refine (dk_list w p b st H.out).mono ?_
    rintro e w1 ⟨hb1, h1⟩
    rw [HD.out, if_pos rfl] at h1
    subst h1
    have HB1 := Lib.hid hb1
    clear hb1
    go_wp2
    refine bodyPost_ret (v := .tuple #[.slice none 0 0, .int .i64 45]) (by simp [results, Tryz.results7, go_sem]) rfl ?_
    exact ⟨HB1.out, by rw [HD.out, if_pos rfl]⟩
end Go.Proofs.YteikdcobpfohcaaGreatDoor

/- The walk of store.Drop. -/
namespace Go.Proofs.YteikdcobpfohcaaGreatDoor
open Go.RowKit Go.Sort Go.Shelf

theorem nums_at {w : World} {base : Nat} {v : Value} {ns : List Nat} (h : OwnNums w base v ns) : ∃ a c, v = .slice a ns.length c ∧ ∀ i (hi : i < ns.length), ∃ g, a = some ⟨g, 0, none⟩ ∧ base ≤ g ∧ w.cell? ⟨g, i, none⟩ = some (.int .i64 (ns[i] : Int)) := by
  obtain ⟨hl, ⟨rfl, h0⟩ | ⟨g, cap, cur, rfl, hb, hh, hn, _, hsz, ht⟩⟩ := h
  · exact ⟨none, 0, by rw [h0], fun i hi => by omega⟩
  · refine ⟨_, cap, rfl, fun i hi => ⟨g, rfl, hb, ?_⟩⟩
    rw [cell_of_row w g i _ _ _ hh]
    have e : (ns.map numV)[i]? = some (numV ns[i]) := by simp [hi]
    rw [← ht, List.getElem?_take, if_pos (by omega)] at e
    rw [← Array.getElem?_toList]; exact e

set_option maxRecDepth 100000 in
set_option maxHeartbeats 2000000 in
theorem st_drop (w : World) (hl : Libz w) (p b : Nat) (st : DkSt) (h : IsDk w p b st) (hlb : ¬ LibzB p ∧ ¬ LibzB b) (but : Int) :
    Calls Tryz.prog 12 #[.pointer (some ⟨p, 0, none⟩), .int .i64 but] w fun e w' => OpPost p b (dkDrop st but) w e w' := by
  have H := Lib.hid h
  have HL := Lib.hid hl
  have hfew := h.ok.fs.few
  have hp := h.lt
  have hbl := h.own.lt
  clear h hl
  cases hd : st.dark
  · have HD := Lib.hid (show dkDrop st but = dropL but (snapNums (st.fs.map (·.name))) st from by unfold dkDrop; rw [hd, if_neg (by decide)])
    go_enter Tryz.func12, Tryz.ntmps12
    go_wp2_with fail
    refine (st_list w HL.out p b st H.out).mono ?_
    rintro e w1 ⟨hb1, h1⟩
    rw [hd, if_neg (by decide)] at h1
    obtain ⟨v, rfl, hown⟩ := h1
    obtain ⟨ns, hns⟩ : ∃ ns, ns = snapNums (st.fs.map (·.name)) := ⟨_, rfl⟩
    rw [← hns] at hown HD
    have hnl : ns.length ≤ 64 := by rw [hns]; have := snapNums_le (st.fs.map (·.name)); rw [List.length_map] at this; omega
    clear hns
    obtain ⟨ga, gc, rfl, hrow⟩ := nums_at hown
    have hs1 := hb1.size
    have HR := Lib.hid hrow
    have HB1 := Lib.hid hb1
    have HL1 := Lib.hid (HL.out.pure hb1)
    have HK1 := Lib.hid (H.out.pure hb1)
    clear hown hrow hb1 hd
    go_wp2
    go_loopw [20] (fun i wr => ∃ (k : Nat) (sk : DkSt), i = .int .i64 k ∧ k ≤ ns.length ∧ Hid (dkDrop st but = dropL but (ns.drop k) sk) ∧ Hid (IsDk wr p b sk) ∧ Hid (DFr p b w1 wr)) (fun i _ => ns.length - (intOf i).toNat)
    case atStart => exact ⟨0, st, rfl, by omega, Lib.hid HD.out, HK1, Lib.hid (Fr.refl _ _)⟩
    case round =>
      obtain ⟨k, sk, rfl, hk, HQ, HK, HF⟩ := hrel
      have hsz := HF.out.size
      by_cases hlt : k < ns.length
      · obtain ⟨g, rfl, hg, hcell⟩ := HR.out k hlt
        have hcell := (HF.out.cell (b := g) (o := k) (ltOfCell hcell) (by intro h; omega)).trans hcell
        have HQ1 := Lib.hid (show dkDrop st but = dropL but (ns[k] :: ns.drop (k + 1)) sk from by rw [HQ.out, List.drop_eq_getElem_cons hlt])
        by_cases hbut : (ns[k] : Int) = but
        · have HQ2 := Lib.hid (show dkDrop st but = dropL but (ns.drop (k + 1)) sk from by rw [HQ1.out, dropL, if_pos hbut])
          go_wp2
          go_roundw
          case rel => exact ⟨k + 1, sk, by go_num, by omega, HQ2, Lib.hid (HK.out.pure (Below.refl _ _)), HF⟩
          case measure => simp [intOf]; omega
        · have hpw := Lib.hid ((HL1.out.kept HF.out (fun i hi hx => by rcases hi with e | e <;> (subst e; first | exact hlb.1 hx | exact hlb.2 hx))).pow)
          go_wp2_with fail
          refine (sname_any wr hpw.out (ns[k] : Int)).mono ?_
          rintro e w2 ⟨⟨r, hr, rfl⟩, hb2⟩
          have hrz : r.size ≤ maxLen := by
            rw [size_of_list hr]
            unfold snapName maxLen
            split
            · rename_i hc
              rw [List.length_cons]
              have := padded_length (ns[k] : Int) 10 (by omega) (by omega)
              omega
            · simp
          have HK2 := Lib.hid (HK.out.pure hb2)
          have HF2 := Lib.hid (HF.out.andPure hb2)
          have HR2 := Lib.hid hr
          clear hr hb2
          go_wp2_with fail
          refine (dk_delete w2 p b sk HK2.out r hrz).mono ?_
          rintro e w3 ⟨rfl, hk3, hf3⟩
          rw [HR2.out] at hk3 ⊢
          obtain ⟨⟨s3, c3⟩, hs3⟩ : ∃ x : DkSt × Int, x = dkDelete sk (snapName (ns[k] : Int)) := ⟨_, rfl⟩
          rw [← hs3] at hk3 ⊢
          have HK3 := Lib.hid hk3
          have HF3 := Lib.hid (HF2.out.trans hf3)
          by_cases hc : c3 = 0
          · subst hc
            have HQ2 := Lib.hid (show dkDrop st but = dropL but (ns.drop (k + 1)) s3 from by rw [HQ1.out, dropL, if_neg hbut, ← hs3, if_pos rfl])
            clear hk3 hf3 hs3
            go_wp2
            go_roundw
            case rel => exact ⟨k + 1, s3, by go_num, by omega, HQ2, HK3, HF3⟩
            case measure => simp [intOf]; omega
          · have HQ2 := Lib.hid (show dkDrop st but = (s3, c3) from by rw [HQ1.out, dropL, if_neg hbut, ← hs3, if_neg hc])
            clear hk3 hf3 hs3
            have hcf : (c3 == 0) = false := by simpa using hc
            have hct : (c3 != 0) = true := by simpa using hc
            go_wp2
            go_ret
            rw [HQ2.out]
            exact ⟨rfl, HK3.out, (Fr.pure HB1.out).trans HF3.out⟩
      · have HQ2 := Lib.hid (show dkDrop st but = (sk, 0) from by rw [HQ.out, List.drop_eq_nil_of_le (by omega)]; rfl)
        go_wp2
        go_ret
        rw [HQ2.out]
        exact ⟨rfl, HK.out, (Fr.pure HB1.out).trans HF.out⟩
  · have HD := Lib.hid (show dkDrop st but = (st, 45) from by unfold dkDrop; rw [hd, if_pos rfl])
    go_enter Tryz.func12, Tryz.ntmps12
    go_wp2_with fail
    refine (st_list w HL.out p b st H.out).mono ?_
    rintro e w1 ⟨hb1, h1⟩
    rw [hd, if_pos rfl] at h1
    subst h1
    have HB1 := Lib.hid hb1
    clear hb1 hd
    go_wp2
    go_ret
    rw [HD.out]
    exact ⟨rfl, H.out.pure HB1.out, Fr.pure HB1.out⟩
end Go.Proofs.YteikdcobpfohcaaGreatDoor
