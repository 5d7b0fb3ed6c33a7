/- The walks of disk.MayName, Used; do, and what is done: Create, Delete, Sync, Rename, Append. -/
import Derived.Test.YteikdcobpfohcaaGreatDoorMkDk
import Derived.Test.YteikdcobpfohcaaGreatDoorShelf
import Derived.Shelf.Strings.SlTrimAscii
namespace Go.Proofs.YteikdcobpfohcaaGreatDoor
open Go.RowKit Go.Maps

/-- The bytes of the files that are no longer to come. -/
def usedL (fs : Fs) (left : Lit → Bool) : Nat := used (fs.filter fun f => !left (.string f.name))

theorem usedL_start (fs : Fs) : usedL fs (Maps.has (fsD fs)) = 0 := by
  have : fs.filter (fun f => !Maps.has (fsD fs) (.string f.name)) = [] := by
    rw [List.filter_eq_nil_iff]
    intro f hf
    rw [has_fs]
    simp only [Bool.not_eq_true', Bool.not_eq_false]
    unfold fsGet
    rw [List.find?_isSome]
    exact ⟨f, hf, by simp⟩
  unfold usedL; rw [this]; rfl
theorem usedL_end (fs : Fs) {left : Lit → Bool} (h : ∀ k, left k = false) : usedL fs left = used fs := by
  unfold usedL
  rw [List.filter_eq_self.2 (fun f _ => by simp [h])]
theorem bytesBefore_ne {a b : List UInt8} (h : bytesBefore a b = true) : a ≠ b := by
  intro e; subst e
  have : (Lit.string a).before (.string a) = true := h
  have hx := apart_of_rising (H := Unit) (es := [(.string a, .nil), (.string a, .nil)]) (by simp [this])
  simp at hx
theorem fs_apart {fs : Fs} (h : FsOk fs) : fs.Pairwise (fun f g => f.name ≠ g.name) := h.sorted.imp fun h => bytesBefore_ne h
theorem usedL_step {fs : Fs} (hp : fs.Pairwise (fun f g => f.name ≠ g.name)) {left : Lit → Bool} {n : List UInt8} {f : FileS} (hl : left (.string n) = true) (hg : fsGet fs n = some f) :
    usedL fs (fun z => left z && !z.sameKey (.string n)) = usedL fs left + (f.firm.length + f.pend.length) := by
  induction fs with
  | nil => simp [fsGet] at hg
  | cons g r ih =>
    obtain ⟨h1, h2⟩ := List.pairwise_cons.1 hp
    have cons : ∀ (l : Lit → Bool), usedL (g :: r) l = (if l (.string g.name) then 0 else g.firm.length + g.pend.length) + usedL r l := by
      intro l
      unfold usedL
      rw [List.filter_cons]
      cases l (.string g.name) <;> simp [used]
    rw [cons, cons]
    by_cases e : g.name = n
    · have hgf : g = f := by
        unfold fsGet at hg
        rw [List.find?_cons, show (g.name == n) = true from by simp [e]] at hg
        exact Option.some.inj hg
      have hr : usedL r (fun z => left z && !z.sameKey (.string n)) = usedL r left := by
        unfold usedL
        congr 1
        apply List.filter_congr
        intro x hx
        have hne : x.name ≠ n := fun e2 => h1 x hx (e.trans e2.symm)
        have : (Lit.string x.name).sameKey (.string n) = false := by show (x.name == n) = false; simpa using hne
        simp only [this]; simp
      have hs : (Lit.string g.name).sameKey (.string n) = true := by show (g.name == n) = true; simp [e]
      rw [hr, hs, e, hl, ← hgf]
      simp; omega
    · have hgr : fsGet r n = some f := by
        unfold fsGet at hg ⊢
        rw [List.find?_cons, show (g.name == n) = false from by simpa using e] at hg
        exact hg
      have hs : (Lit.string g.name).sameKey (.string n) = false := by show (g.name == n) = false; simpa using e
      rw [ih h2 hgr, hs]
      simp; omega

theorem below_grown {w w' : World} (h : Below w.heap.size w w') (row : Option Nat) : w.grownBy w' row := ⟨h.os, h.tape, h.output, h.size, fun k hk _ => h.block k hk⟩

theorem keyOf_str_inv {P : Program} {k : TypeId} (hk : P.underlying k = some .string) {key : Value} {kl : Lit} (h : keyOf P k key = some kl) : ∃ s : ByteArray, key = .string s ∧ kl = .string s.data.toList ∧ s.size ≤ maxLen := by
  cases key <;> simp [keyOf, hk, mapKey] at h
  rename_i s
  obtain ⟨hs, rfl⟩ := h
  exact ⟨s, rfl, rfl, hs⟩

theorem wpList_next_files (w : World) {ops : Array Oper} {rest : List Oper} {o : Oper} {a : Act} {Q : Exit → Act → World → Prop} (hg : o.guard = none) (it : Operand) (hop : o.op = Op.next it false)
    (b r : Nat) (fs : Fs) (left : Lit → Bool) (cnt : Nat) (hit : a.eval it = .pointer (some ⟨r, 0, none⟩)) (h : w.ranges Tryz.prog 9 fileElem b r fs.length (fsD fs) left cnt)
    (hDone : (∀ kl, left kl = false) → wpList Tryz.prog ops Q rest (a.put o.dst (.tuple #[.bool false])) w)
    (hMore : ∀ (x f1 f2 : ByteArray) (f : FileS) (w' : World) (cnt' : Nat), fsGet fs x.data.toList = some f → f1.data.toList = f.firm → f2.data.toList = f.pend → left (.string x.data.toList) = true →
      w'.ranges Tryz.prog 9 fileElem b r fs.length (fsD fs) (fun z => left z && !z.sameKey (.string x.data.toList)) cnt' → cnt' < cnt → w.grownBy w' (some r) → w'.heap.size = w.heap.size →
      (Instr.entry (.pointer (some ⟨r, 0, none⟩))).run Tryz.prog w' = .ok (.tuple #[.string x, .agg #[.string f1, .string f2]]) w' → wpList Tryz.prog ops Q rest (a.put o.dst (.tuple #[.bool true, .string x, .agg #[.string f1, .string f2]])) w') :
    wpList Tryz.prog ops Q (o :: rest) a w :=
  wpList_next_ranges w hg it hop 9 Tryz.strKey fileElem (fun x : ByteArray => .string x) (fun c : ByteArray × ByteArray => fileV c.1 c.2)
    (fun key kl hk => by obtain ⟨s, rfl, _⟩ := keyOf_str_inv Tryz.underlying9 hk; exact ⟨s, rfl⟩) (fun v y h => fileElem_inv h) b r fs.length (fsD fs) left cnt hit h (fun _ hl => hDone hl)
    (fun x c kl y w' cnt' hk hl hv hat hrg hlt hgr hsz hen => by
      obtain ⟨s, hs, rfl, _⟩ := keyOf_str_inv Tryz.underlying9 hk
      cases hs
      have hhas := Maps.has_true_of_atKey hat
      rw [has_fs] at hhas
      obtain ⟨f, hf⟩ := Option.isSome_iff_exists.1 hhas
      have hy := hat .nil
      rw [at_fs, hf] at hy
      simp only at hy
      obtain ⟨f1, f2, hv2, h1, h2⟩ := fileElem_file (v := fileV c.1 c.2) (f := f) (ps := y.2) (by rw [hv, hy])
      have e1 : c.1 = f1 ∧ c.2 = f2 := by simpa [fileV] using hv2
      rw [← e1.1] at h1
      rw [← e1.2] at h2
      exact hMore x c.1 c.2 f w' cnt' hf h1 h2 hl hrg hlt hgr hsz hen)

theorem usedL_le {fs : Fs} (hp : fs.Pairwise (fun f g => f.name ≠ g.name)) (left : Lit → Bool) : usedL fs left ≤ used fs := by
  unfold usedL used
  induction fs with
  | nil => simp
  | cons f r ih =>
    have := ih (List.pairwise_cons.1 hp).2
    rw [List.filter_cons]
    split <;> simp <;> omega

set_option maxRecDepth 100000 in
set_option maxHeartbeats 1000000 in
theorem dk_used0 (w : World) (p b : Nat) (st : DkSt) (hcell : w.heap[p]? = some (.cells (st.cells b) 90 (0, 0))) (hown : w.ownsMap Tryz.prog 9 fileElem b st.fs.length (fsD st.fs)) (hfs : FsOk st.fs) :
    Calls Tryz.prog 40 #[.pointer (some ⟨p, 0, none⟩)] w fun e w' => e = .returned (.int .i64 (used st.fs : Int)) ∧ Below w.heap.size w w' := by
  have H := Lib.hid hown
  have HS := Lib.hid hfs
  have c0 : w.cell? ⟨p, 0, none⟩ = some (.map (some b)) := by rw [cell_of_row w p _ _ _ _ hcell]; rfl
  have hap := Lib.hid (fs_apart hfs)
  have hul := used_le hfs
  clear hown hfs hcell
  go_enter Tryz.func40, Tryz.ntmps40
  go_wp2_with (at_range; refine wpList_range_own _ rfl _ _ rfl 9 93 Tryz.strKey Tryz.underlying88 fileElem b st.fs.length (fsD st.fs) rfl H.out ?_; intro w0 hrg0 hg0 hs0; clear c0)
  go_frame
  go_loopw [3] (fun x wr => ∃ left cnt, x = .int .i64 (usedL st.fs left : Int) ∧ wr.ranges Tryz.prog 9 fileElem b w.heap.size st.fs.length (fsD st.fs) left cnt ∧ Below w.heap.size w wr) (fun _ wr => wr.rangeLeft b w.heap.size)
  case atStart => exact ⟨_, _, by rw [usedL_start]; rfl, hrg0, ⟨hg0.os, hg0.tape, hg0.output, hg0.size, fun k hk => hg0.block k hk (by simp)⟩⟩
  case round =>
    obtain ⟨left, cnt, rfl, hrg, hbw⟩ := hrel
    have hle : usedL st.fs left ≤ 67108864 := Nat.le_trans (usedL_le hap.out left) hul
    go_wp2_with (at_next; refine wpList_next_files _ rfl _ rfl b w.heap.size st.fs _ _ rfl hrg ?_ ?_)
    · intro hl0
      have HE := Lib.hid (usedL_end st.fs hl0)
      go_wp2
      go_ret
      exact ⟨ret_int (by rw [HE.out]), hbw⟩
    · intro x f1 f2 f w1 cnt1 hget h1 h2 hlx hrg1 hlt hg1 hs1 hen
      have HG := Lib.hid hget
      have HST := Lib.hid (usedL_step hap.out hlx hget)
      have hsm : f1.size + f2.size ≤ 1048576 := by
        rw [size_of_list h1, size_of_list h2]; exact HS.out.small f (get_name hget).2
      have HFS := Lib.hid (show f1.size + f2.size = f.firm.length + f.pend.length from by rw [size_of_list h1, size_of_list h2])
      clear hget h1 h2 hlx
      have hnlt : usedL st.fs (fun z => left z && !z.sameKey (.string x.data.toList)) ≤ 67108864 := Nat.le_trans (usedL_le hap.out _) hul
      have hbw1 := hbw.grown hg1 hbw.size (fun k e => by cases e; exact Nat.le_refl _)
      go_wp2_with fail
      refine (file_size _ f1 f2 (by omega)).mono ?_
      rintro e w2 ⟨rfl, hb2⟩
      have hrg2 := (hrg1.alloc (.cells #[.string f1, .string f2] 93)).kept (below_grown hb2 none) (by simp) (by simp)
      have hbw2 := (hbw1.alloc hbw1.size (.cells #[.string f1, .string f2] 93)).trans (hb2.mono (by simp; have := hbw1.size; omega))
      go_wp2
      go_roundw
      case rel => exact ⟨_, cnt1, by rw [HST.out, ← HFS.out]; go_num, hrg2, hbw2⟩
      case measure => rw [hrg2.left_eq, hrg.left_eq]; exact hlt
theorem dk_used (w : World) (p b : Nat) (st : DkSt) (h : IsDk w p b st) :
    Calls Tryz.prog 40 #[.pointer (some ⟨p, 0, none⟩)] w fun e w' => e = .returned (.int .i64 (used st.fs : Int)) ∧ Below w.heap.size w w' := dk_used0 w p b st h.cell h.own h.ok.fs

theorem all_dropWhile {p : UInt8 → Bool} : ∀ {l : List UInt8}, l.all p = false → ∃ x r, l.dropWhile p = x :: r ∧ p x = false
  | [], h => by simp at h
  | a :: l, h => by
    cases ha : p a
    · exact ⟨a, l, by rw [List.dropWhile_cons, ha]; rfl, ha⟩
    · rw [List.all_cons, ha, Bool.true_and] at h
      obtain ⟨x, r, h1, h2⟩ := all_dropWhile h
      exact ⟨x, r, by rw [List.dropWhile_cons, ha]; exact h1, h2⟩
theorem dropWhile_all {p : UInt8 → Bool} : ∀ {l : List UInt8}, l.all p = true → l.dropWhile p = []
  | [], _ => rfl
  | a :: l, h => by
    rw [List.all_cons, Bool.and_eq_true] at h
    rw [List.dropWhile_cons, h.1]; exact dropWhile_all h.2
theorem trim_empty (l cs : List UInt8) : (Lib.trimS l cs = []) ↔ l.all (fun c => cs.contains c) = true := by
  unfold Lib.trimS Lib.trimRightS Lib.trimLeftS
  constructor
  · intro h
    cases hall : l.all (fun c => cs.contains c)
    · have hr : (l.reverse.all (fun c => cs.contains c)) = false := by
        rw [List.all_reverse]; exact hall
      obtain ⟨x, r, h1, h2⟩ := all_dropWhile hr
      rw [h1] at h
      have hx : ((x :: r).reverse.all (fun c => cs.contains c)) = false := by
        rw [List.all_eq_false]
        exact ⟨x, by simp, by simp only [h2]; simp⟩
      obtain ⟨y, q, h3, _⟩ := all_dropWhile hx
      rw [h3] at h
      simp at h
    · rfl
  · intro h
    have hr : (l.reverse.all (fun c => cs.contains c)) = true := by rw [List.all_reverse]; exact h
    rw [dropWhile_all hr]; rfl

set_option maxRecDepth 100000 in
set_option maxHeartbeats 1000000 in
theorem mayName_any (s : ByteArray) (w : World) (hs : s.size ≤ 9223372036854775807) :
    Calls Tryz.prog 39 #[.string s] w fun e w' => e = .returned (.bool (mayName s.data.toList)) ∧ Below w.heap.size w w' := by
  by_cases h1 : 1 ≤ s.size
  · by_cases h24 : s.size ≤ 24
    · go_enter Tryz.func39, Tryz.ntmps39
      go_wp2_with fail
      refine (Any.strings_Trim_laid Tryz.lays160 (by kernel_rfl) s ⟨letters.toArray⟩ _ hs (by decide) (ascii_of_all (by decide))).mono ?_
      rintro e w1 ⟨rfl, hb1⟩
      go_wp2
      go_ret
      refine ⟨ret_bool ?_, hb1⟩
      have e1 := trim_empty s.data.toList letters
      unfold mayName
      rw [size_toList, decide_eq_true h1, decide_eq_true h24, Bool.true_and, Bool.true_and, Bool.eq_iff_iff, List.isEmpty_iff]
      exact e1
    · have HM := Lib.hid (show mayName s.data.toList = false from by unfold mayName; rw [size_toList]; simp [h24])
      go_enter Tryz.func39, Tryz.ntmps39
      go_wp2
      go_ret
      exact ⟨ret_bool HM.out.symm, Below.refl _ _⟩
  · have HM := Lib.hid (show mayName s.data.toList = false from by unfold mayName; rw [size_toList]; simp [h1])
    go_enter Tryz.func39, Tryz.ntmps39
    go_wp2
    go_ret
    exact ⟨ret_bool HM.out.symm, Below.refl _ _⟩

end Go.Proofs.YteikdcobpfohcaaGreatDoor

/- What is done to a disk: the map's turns as frames, and the walk of 'do'. -/
namespace Go.Proofs.YteikdcobpfohcaaGreatDoor
open Go.RowKit Go.Maps

/-- Block p alone is turned, and no block is new. -/
structure Turn (S : Nat → Prop) (w w' : World) : Prop where
  fr : Fr S w w'
  size : w'.heap.size = w.heap.size

theorem turned_fr {w w' : World} {b : Nat} (h : w.mapTurned w' b) : Fr (fun k => k = b) w w' :=
  ⟨h.grown.os, h.grown.tape, h.grown.output, h.grown.size, fun k hk hs => h.grown.block k hk (fun e => hs (Option.some.inj e))⟩
theorem turned_size {w w' : World} {b : Nat} (h : w.mapTurned w' b) : w'.heap.size = w.heap.size := by
  obtain ⟨es, clock, es', clock', hb, rfl⟩ := h
  simp [ChangeMaps.setBlock]

theorem IsDk.setLeft {w : World} {p b : Nat} {st : DkSt} (h : IsDk w p b st) (n : Int) (h0 : -1 ≤ n) (h1 : n ≤ 9223372036854775807) : IsDk (w.setCell ⟨p, 2, none⟩ (.int .i64 n)) p b { st with left := n } :=
  ⟨by rw [heap_setCell_same w p 2 _ _ _ h.cell]; rfl, h.own.setCell (by show b ≠ p; exact h.ne) _, ⟨h.ok.fs, h.ok.cap0, h.ok.cap1, h.ok.fits, h0, h1⟩⟩
theorem IsDk.setDark {w : World} {p b : Nat} {st : DkSt} (h : IsDk w p b st) (d : Bool) : IsDk (w.setCell ⟨p, 3, none⟩ (.bool d)) p b { st with dark := d } :=
  ⟨by rw [heap_setCell_same w p 3 _ _ _ h.cell]; rfl, h.own.setCell (by show b ≠ p; exact h.ne) _, ⟨h.ok.fs, h.ok.cap0, h.ok.cap1, h.ok.fits, h.ok.left0, h.ok.left1⟩⟩
theorem setCell_fr {w : World} (a : Addr) (u : Value) : Fr (fun k => k = a.block) w (w.setCell a u) := (Fr.refl (fun k => k = a.block) w).setCell a (fun _ => rfl) u

/-- One thing less. -/
def dec (n : Int) : Int := if n = -1 then -1 else n - 1

set_option maxRecDepth 100000 in
set_option maxHeartbeats 1000000 in
theorem dk_do (fk : FuncId) (caps : Array Value) (w : World) (p b : Nat) (st : DkSt) (h : IsDk w p b st) (hent : Enters Tryz.prog fk) (Q : World → Prop)
    (hact : st.left ≠ 0 → ∀ w1, Fr (fun k => k = p) w w1 → w1.heap.size = w.heap.size → IsDk w1 p b { st with left := dec st.left } → Calls Tryz.prog fk caps w1 fun e w2 => e = .returned (.tuple #[]) ∧ Q w2) :
    Calls Tryz.prog 46 #[.pointer (some ⟨p, 0, none⟩), .func (.func fk) #[] caps] w fun e w' =>
      (st.left = 0 ∧ e = .returned (.int .i64 45) ∧ Fr (fun k => k = p) w w' ∧ IsDk w' p b { st with dark := true }) ∨ (st.left ≠ 0 ∧ e = .returned (.int .i64 0) ∧ Q w') := by
  have he : ∀ (args : Array Value) (w : World), (callFunc fk args).run Tryz.prog w = .ok (.enter fk args) w := hent
  have hp := h.lt
  obtain ⟨c0, c1, c2, c3⟩ := h.cs
  have z3 := h.fz 3
  have z2 := h.fz 2
  by_cases h0 : st.left = 0
  · have HD := Lib.hid (h.setDark true)
    have H0 := Lib.hid h0
    clear hact h
    rw [h0] at c2
    clear h0
    go_enter Tryz.func46, Tryz.ntmps46
    go_wp2
    go_ret
    exact .inl ⟨H0.out, rfl, setCell_fr ⟨p, 3, none⟩ _, HD.out⟩
  · by_cases h1 : st.left = -1
    · have HA := Lib.hid (hact h0 w (Fr.refl _ _) rfl (by rw [h1]; have := h; cases st; simp only at h1; subst h1; exact this))
      have H0 := Lib.hid h0
      clear hact h
      rw [h1] at c2
      clear h0 h1
      go_enter Tryz.func46, Tryz.ntmps46
      go_wp2_with fail
      refine HA.out.mono ?_
      rintro e w2 ⟨rfl, hq⟩
      have HQ := Lib.hid hq
      clear hq
      go_wp2
      go_ret
      exact .inr ⟨H0.out, rfl, HQ.out⟩
    · have hl0 := h.ok.left0
      have hl1 := h.ok.left1
      have HA := Lib.hid (hact h0 _ (setCell_fr ⟨p, 2, none⟩ (.int .i64 (st.left - 1))) (by simp) (by
        rw [show dec st.left = st.left - 1 from by unfold dec; rw [if_neg h1]]
        exact h.setLeft _ (by omega) (by omega)))
      have H0 := Lib.hid h0
      clear hact h
      go_enter Tryz.func46, Tryz.ntmps46
      go_wp2_with fail
      refine HA.out.mono ?_
      rintro e w2 ⟨rfl, hq⟩
      have HQ := Lib.hid hq
      clear hq
      go_wp2
      go_ret
      exact .inr ⟨H0.out, rfl, HQ.out⟩
end Go.Proofs.YteikdcobpfohcaaGreatDoor

/- Files put and taken: what stays true of a list of files; and a disk behind a turn of its map. -/
namespace Go.Proofs.YteikdcobpfohcaaGreatDoor
open Go.RowKit Go.Maps

theorem own_sorted {w : World} {b n : Nat} {fs : Fs} (h : w.ownsMap Tryz.prog 9 fileElem b n (fsD fs)) : fs.Pairwise (fun f g => bytesBefore f.name g.name = true) := by
  obtain ⟨es, clock, _, F, _, e⟩ := h
  have h1 := WideShapes.rising_pairwise _ (fit_rising Tryz.strKey F)
  have e3 : (DataW.map (fs.map entD) : DataW Unit) = fsD fs := rfl
  rw [e] at e3
  have e2 := DataW.map.inj e3
  rw [← e2, List.pairwise_map] at h1
  exact h1

theorem used_cons (f : FileS) (fs : Fs) : used (f :: fs) = (f.firm.length + f.pend.length) + used fs := by simp [used]
theorem mem_ins {f g : FileS} {fs : Fs} : g ∈ fsIns f fs ↔ g = f ∨ g ∈ fs := by
  induction fs with
  | nil => simp [fsIns]
  | cons h r ih =>
    unfold fsIns
    split
    · simp
    · simp only [List.mem_cons, ih]
      constructor
      · rintro (h | h | h) <;> simp [h]
      · rintro (h | h | h) <;> simp [h]
theorem length_ins (f : FileS) (fs : Fs) : (fsIns f fs).length = fs.length + 1 := by
  induction fs with
  | nil => rfl
  | cons h r ih => unfold fsIns; split <;> simp [ih]
theorem used_ins (f : FileS) (fs : Fs) : used (fsIns f fs) = (f.firm.length + f.pend.length) + used fs := by
  induction fs with
  | nil => rfl
  | cons h r ih =>
    unfold fsIns
    split
    · exact used_cons _ _
    · rw [used_cons, ih, used_cons]; omega
theorem mem_del {g : FileS} {fs : Fs} {n : List UInt8} : g ∈ fsDel fs n ↔ g ∈ fs ∧ g.name ≠ n := by
  unfold fsDel; rw [List.mem_filter]; simp
theorem length_del (fs : Fs) (n : List UInt8) : (fsDel fs n).length ≤ fs.length := List.length_filter_le _ _
theorem used_del (fs : Fs) (n : List UInt8) : used (fsDel fs n) ≤ used fs := by
  induction fs with
  | nil => simp [fsDel]
  | cons g r ih =>
    unfold fsDel at ih ⊢
    rw [List.filter_cons, used_cons]
    split
    · rw [used_cons]; omega
    · omega
theorem del_none {fs : Fs} {n : List UInt8} (h : fsGet fs n = none) : fsDel fs n = fs := by
  unfold fsDel
  rw [List.filter_eq_self]
  intro g hg
  have := List.find?_eq_none.1 h g hg
  simpa using this
theorem used_del_some {fs : Fs} (hp : fs.Pairwise (fun f g => f.name ≠ g.name)) {n : List UInt8} {f : FileS} (h : fsGet fs n = some f) : used (fsDel fs n) + (f.firm.length + f.pend.length) = used fs ∧ (fsDel fs n).length + 1 = fs.length := by
  induction fs with
  | nil => simp [fsGet] at h
  | cons g r ih =>
    obtain ⟨h1, h2⟩ := List.pairwise_cons.1 hp
    unfold fsGet at h
    rw [List.find?_cons] at h
    unfold fsDel
    rw [List.filter_cons]
    by_cases e : g.name = n
    · rw [show (g.name == n) = true from by simp [e]] at h ⊢
      have hgf : g = f := Option.some.inj h
      subst hgf
      have hr : r.filter (fun g => !(g.name == n)) = r := by
        rw [List.filter_eq_self]
        intro x hx
        have : x.name ≠ n := fun e2 => h1 x hx (e.trans e2.symm)
        simpa using this
      rw [if_neg (by simp), hr, used_cons]
      exact ⟨by omega, rfl⟩
    · rw [show (g.name == n) = false from by simpa using e] at h ⊢
      have := ih h2 h
      rw [if_pos (by rfl), used_cons, used_cons, List.length_cons, List.length_cons]
      unfold fsDel at this
      exact ⟨by omega, by omega⟩

/-- Few, small, well named: what a turn of the map must keep. -/
structure FsKeep (fs : Fs) : Prop where
  few : fs.length ≤ 64
  small : ∀ f ∈ fs, f.firm.length + f.pend.length ≤ 1048576
  names : ∀ f ∈ fs, f.name.length ≤ 24
theorem FsOk.keep {fs : Fs} (h : FsOk fs) : FsKeep fs := ⟨h.few, h.small, h.names⟩
theorem FsKeep.del {fs : Fs} (h : FsKeep fs) (n : List UInt8) : FsKeep (fsDel fs n) :=
  ⟨Nat.le_trans (length_del _ _) h.few, fun f hf => h.small f (mem_del.1 hf).1, fun f hf => h.names f (mem_del.1 hf).1⟩
theorem FsKeep.put {fs : Fs} (h : FsKeep fs) {f : FileS} (hl : (fsDel fs f.name).length < 64) (hs : f.firm.length + f.pend.length ≤ 1048576) (hn : f.name.length ≤ 24) : FsKeep (fsPut fs f) := by
  refine ⟨by unfold fsPut; rw [length_ins]; omega, ?_, ?_⟩ <;> intro g hg <;> unfold fsPut at hg <;> rw [mem_ins, mem_del] at hg <;> rcases hg with rfl | hg
  · exact hs
  · exact h.small g hg.1
  · exact hn
  · exact h.names g hg.1
theorem used_put (fs : Fs) (f : FileS) : used (fsPut fs f) = (f.firm.length + f.pend.length) + used (fsDel fs f.name) := by unfold fsPut; rw [used_ins]

theorem IsDk.turned {w w' : World} {p b n : Nat} {st : DkSt} {fs' : Fs} (h : IsDk w p b st) (own : w'.ownsMap Tryz.prog 9 fileElem b n (fsD fs')) (ht : w.mapTurned w' b) (hk : FsKeep fs') (hf : (used fs' : Int) ≤ st.cap) : IsDk w' p b { st with fs := fs' } :=
  ⟨(turned_fr ht).heapAt h.cell (fun e => h.ne e.symm), (by have := ownsMap_tight own; rw [size_fs] at this; exact this), ⟨⟨own_sorted own, hk.few, hk.small, hk.names⟩, h.ok.cap0, h.ok.cap1, hf, h.ok.left0, h.ok.left1⟩⟩
theorem IsDk.fewer {w : World} {p b : Nat} {st : DkSt} (h : IsDk w p b st) : st.fs.length < maxLen := by have := h.ok.fs.few; unfold maxLen; omega

/-- The frame of what is done to a disk. -/
abbrev DFr (p b : Nat) : World → World → Prop := Fr (fun k => k = p ∨ k = b)
theorem Fr.toD {p b : Nat} {w w' : World} (h : Fr (fun k => k = b) w w') : DFr p b w w' := h.mono (fun _ _ e => .inr e)
theorem Fr.toD1 {p b : Nat} {w w' : World} (h : Fr (fun k => k = p) w w') : DFr p b w w' := h.mono (fun _ _ e => .inl e)
end Go.Proofs.YteikdcobpfohcaaGreatDoor
