/- A disk as the walks see it: files by rising names, a capacity, how many are done still, and whether the power is gone; and the map that holds them. -/
import Derived.Test.YteikdcobpfohcaaGreatDoorChecked
import Derived.Test.YteikdcobpfohcaaGreatDoorMAa
import Derived.Maps.OwnOps
import Derived.Maps.OwnSet
import Derived.Maps.RangeWalk
import Derived.Maps.Ext
import Derived.Deep.QuietTactic
import Derived.BigQuiet
namespace Go.Proofs.YteikdcobpfohcaaGreatDoor
open Go.RowKit Go.Maps

structure FileS where
  name : List UInt8
  firm : List UInt8
  pend : List UInt8
deriving DecidableEq

abbrev Fs := List FileS

def fileD (f : FileS) : DataW Unit := .agg [.lit (.string f.firm), .lit (.string f.pend)]
def entD (f : FileS) : Lit × DataW Unit := (.string f.name, fileD f)
/-- The files as the map's datum. -/
def fsD (fs : Fs) : DataW Unit := .map (fs.map entD)

/-- How a file lies in the map. -/
def fileElem (v : Value) : Option (DataW Unit × List MemPlace) :=
  match v with
  | .agg cs => match cs.toList with
    | [.string a, .string b] => some (.agg [.lit (.string a.data.toList), .lit (.string b.data.toList)], [])
    | _ => none
  | _ => none
def fileV (a b : ByteArray) : Value := .agg #[.string a, .string b]
theorem fileElem_mk (a b : ByteArray) : fileElem (fileV a b) = some (.agg [.lit (.string a.data.toList), .lit (.string b.data.toList)], []) := rfl
theorem fileElem_inv {v : Value} {y : DataW Unit × List MemPlace} (h : fileElem v = some y) : ∃ c : ByteArray × ByteArray, v = fileV c.1 c.2 := by
  unfold fileElem at h
  split at h
  · rename_i cs
    split at h
    · rename_i a b hcs
      refine ⟨(a, b), ?_⟩
      show Value.agg cs = .agg #[.string a, .string b]
      rw [show cs = #[Value.string a, .string b] from Array.ext' hcs]
    · cases h
  · cases h
theorem fileElem_file {v : Value} {f : FileS} {ps : List MemPlace} (h : fileElem v = some (fileD f, ps)) : ∃ a b : ByteArray, v = fileV a b ∧ a.data.toList = f.firm ∧ b.data.toList = f.pend := by
  obtain ⟨⟨a, b⟩, rfl⟩ := fileElem_inv h
  rw [fileElem_mk] at h
  simp only [Option.some.injEq, Prod.mk.injEq, fileD, DataW.agg.injEq, List.cons.injEq, DataW.lit.injEq, Lit.string.injEq] at h
  exact ⟨a, b, rfl, h.1.1, h.1.2.1⟩

def fsIns (f : FileS) : Fs → Fs
  | [] => [f]
  | g :: r => if bytesBefore f.name g.name then f :: g :: r else g :: fsIns f r
def fsDel (fs : Fs) (n : List UInt8) : Fs := fs.filter fun g => !(g.name == n)
/-- A file more, in its place; one of its name goes. -/
def fsPut (fs : Fs) (f : FileS) : Fs := fsIns f (fsDel fs f.name)
def fsGet (fs : Fs) (n : List UInt8) : Option FileS := fs.find? fun g => g.name == n

theorem ins_fs (f : FileS) (fs : Fs) : DataW.insert (entD f) (fs.map entD) = (fsIns f fs).map entD := by
  induction fs with
  | nil => rfl
  | cons g r ih =>
    show (if bytesBefore f.name g.name then _ else _) = _
    unfold fsIns
    split
    · rfl
    · simp only [List.map_cons, ih]
theorem del_list (fs : Fs) (n : List UInt8) : (fs.map entD).filter (fun p => !p.1.sameKey (.string n)) = (fsDel fs n).map entD := by
  unfold fsDel
  rw [List.filter_map]; rfl
theorem del_fs (fs : Fs) (n : List UInt8) : (fsD fs).del (.string n) = fsD (fsDel fs n) := by
  show DataW.map _ = DataW.map _
  rw [del_list]
theorem put_fs (fs : Fs) (f : FileS) : (fsD fs).put (.string f.name) (fileD f) = fsD (fsPut fs f) := by
  show DataW.map (DataW.insert (entD f) _) = DataW.map _
  rw [del_list, ins_fs]; rfl
theorem find_fs (fs : Fs) (n : List UInt8) : (fs.map entD).find? (fun p => p.1.sameKey (.string n)) = (fsGet fs n).map entD := by
  unfold fsGet
  rw [List.find?_map]; rfl
theorem at_fs (fs : Fs) (n : List UInt8) (z : DataW Unit) : (fsD fs).atKey (.string n) z = match fsGet fs n with | some f => fileD f | none => z := by
  unfold DataW.atKey fsD
  simp only [find_fs]
  cases fsGet fs n <;> rfl
theorem has_fs (fs : Fs) (n : List UInt8) : Maps.has (fsD fs) (.string n) = (fsGet fs n).isSome := by
  show (fs.map entD).any (fun p => p.1.sameKey (.string n)) = _
  unfold fsGet
  induction fs with
  | nil => rfl
  | cons f r ih =>
    simp only [List.map_cons, List.any_cons, List.find?_cons, ih]
    show ((f.name == n) || _) = _
    cases f.name == n <;> rfl
theorem size_fs (fs : Fs) : Maps.size (fsD fs) = fs.length := by show (fs.map entD).length = _; simp

theorem get_name {fs : Fs} {n : List UInt8} {f : FileS} (h : fsGet fs n = some f) : f.name = n ∧ f ∈ fs := by
  unfold fsGet at h
  exact ⟨by simpa using List.find?_some h, List.mem_of_find?_eq_some h⟩

/-- The bytes of all files. -/
def used (fs : Fs) : Nat := (fs.map fun f => f.firm.length + f.pend.length).sum

/-- May it be a file's name? -/
def letters : List UInt8 := [97, 98, 99, 100, 101, 102, 103, 104, 105, 106, 107, 108, 109, 110, 111, 112, 113, 114, 115, 116, 117, 118, 119, 120, 121, 122, 65, 66, 67, 68, 69, 70, 71, 72, 73, 74, 75, 76, 77, 78, 79, 80, 81, 82, 83, 84, 85, 86, 87, 88, 89, 90, 48, 49, 50, 51, 52, 53, 54, 55, 56, 57, 45, 95, 46]
def mayName (n : List UInt8) : Bool := decide (1 ≤ n.length) && decide (n.length ≤ 24) && n.all (fun c => letters.contains c)

structure DkSt where
  fs : Fs
  cap : Int
  left : Int
  dark : Bool

structure FsOk (fs : Fs) : Prop where
  sorted : fs.Pairwise (fun f g => bytesBefore f.name g.name = true)
  few : fs.length ≤ 64
  small : ∀ f ∈ fs, f.firm.length + f.pend.length ≤ 1048576
  names : ∀ f ∈ fs, f.name.length ≤ 24

structure DkOk (st : DkSt) : Prop where
  fs : FsOk st.fs
  cap0 : 0 ≤ st.cap
  cap1 : st.cap ≤ 9223372036854775807
  fits : (used st.fs : Int) ≤ st.cap
  left0 : -1 ≤ st.left
  left1 : st.left ≤ 9223372036854775807

def DkSt.cells (st : DkSt) (b : Nat) : Array Value := #[.map (some b), .int .i64 st.cap, .int .i64 st.left, .bool st.dark]

/-- A disk lies in block p, its files in block b. -/
structure IsDk (w : World) (p b : Nat) (st : DkSt) : Prop where
  cell : w.heap[p]? = some (.cells (st.cells b) 90 (0, 0))
  own : w.ownsMap Tryz.prog 9 fileElem b st.fs.length (fsD st.fs)
  ok : DkOk st

theorem used_le {fs : Fs} (h : FsOk fs) : used fs ≤ 67108864 := by
  have : ∀ (l : Fs), (∀ f ∈ l, f.firm.length + f.pend.length ≤ 1048576) → used l ≤ l.length * 1048576 := by
    intro l
    induction l with
    | nil => intro _; simp [used]
    | cons f l ih =>
      intro h
      have h1 := h f (by simp)
      have h2 := ih (fun g hg => h g (by simp [hg]))
      simp only [used, List.map_cons, List.sum_cons, List.length_cons] at h2 ⊢
      omega
  have h1 := this fs h.small
  have h2 := h.few
  omega

theorem IsDk.lt {w : World} {p b : Nat} {st : DkSt} (h : IsDk w p b st) : p < w.heap.size := lt_of_block h.cell
theorem IsDk.ne {w : World} {p b : Nat} {st : DkSt} (h : IsDk w p b st) : b ≠ p := by
  intro e
  obtain ⟨es, clock, hb, _⟩ := h.own
  have hc := h.cell
  rw [e, hc] at hb
  cases hb
theorem IsDk.cs {w : World} {p b : Nat} {st : DkSt} (h : IsDk w p b st) :
    w.cell? ⟨p, 0, none⟩ = some (.map (some b)) ∧ w.cell? ⟨p, 1, none⟩ = some (.int .i64 st.cap) ∧ w.cell? ⟨p, 2, none⟩ = some (.int .i64 st.left) ∧ w.cell? ⟨p, 3, none⟩ = some (.bool st.dark) := by
  refine ⟨?_, ?_, ?_, ?_⟩ <;> rw [cell_of_row w p _ _ _ _ h.cell] <;> rfl
theorem IsDk.fz {w : World} {p b : Nat} {st : DkSt} (h : IsDk w p b st) (j : Nat) : w.frozen? ⟨p, j, none⟩ = false := frozen_of_row w p j _ _ h.cell

theorem ownsMap_fr {S : Nat → Prop} {w w' : World} {P : Program} {k : TypeId} {R : Value → Option (DataW Unit × List MemPlace)} {b n : Nat} {D : DataW Unit} (h : w.ownsMap P k R b n D) (hf : Fr S w w') (hb : ¬ S b) : w'.ownsMap P k R b n D := by
  obtain ⟨es, clock, hh, r⟩ := h
  exact ⟨es, clock, hf.heapAt hh hb, r⟩
theorem ownsMap_tight {w : World} {P : Program} {k : TypeId} {R : Value → Option (DataW Unit × List MemPlace)} {b n : Nat} {D : DataW Unit} (h : w.ownsMap P k R b n D) : w.ownsMap P k R b (Maps.size D) D := by
  obtain ⟨es, clock, hh, F, _, rfl⟩ := h
  exact ⟨es, clock, hh, F, by simp [Maps.size, length_sorted], rfl⟩
theorem IsDk.kept {S : Nat → Prop} {w w' : World} {p b : Nat} {st : DkSt} (h : IsDk w p b st) (hf : Fr S w w') (hp : ¬ S p) (hb : ¬ S b) : IsDk w' p b st :=
  ⟨hf.heapAt h.cell hp, ownsMap_fr h.own hf hb, h.ok⟩
theorem IsDk.pure {w w' : World} {p b : Nat} {st : DkSt} (h : IsDk w p b st) (hb : Below w.heap.size w w') : IsDk w' p b st := h.kept (Fr.pure (S := fun _ => False) hb) (fun hf => hf) (fun hf => hf)
theorem IsDk.drewN {w : World} {p b : Nat} {st : DkSt} (h : IsDk w p b st) (n : Nat) : IsDk (w.drewN n) p b st := ⟨h.cell, h.own, h.ok⟩

theorem Tryz.strKey : Keyed Tryz.prog 9 := string_keyed Tryz.underlying9
theorem Tryz.zeroFile (w : World) : (zeroValue 93).run Tryz.prog w = .ok (fileV ⟨#[]⟩ ⟨#[]⟩) w := by kernel_rfl

set_option maxHeartbeats 400000 in
theorem dk_down (w : World) (p b : Nat) (st : DkSt) (h : IsDk w p b st) :
    Calls Tryz.prog 45 #[.pointer (some ⟨p, 0, none⟩)] w fun e w' => e = .returned (.int .i64 (if st.dark then 45 else 0)) ∧ w = w' := by
  obtain ⟨c0, c1, c2, c3⟩ := h.cs
  clear h
  cases hd : st.dark <;> rw [hd] at c3 <;> clear hd
  · go_enter Tryz.func45, Tryz.ntmps45
    go_wp2
    go_ret
    exact ⟨rfl, rfl⟩
  · go_enter Tryz.func45, Tryz.ntmps45
    go_wp2
    go_ret
    exact ⟨rfl, rfl⟩

set_option maxHeartbeats 400000 in
theorem dk_down_nil (w : World) :
    Calls Tryz.prog 45 #[.pointer none] w fun e w' => e = .returned (.int .i64 2) ∧ w = w' := by
  go_enter Tryz.func45, Tryz.ntmps45
  go_wp2
  go_ret
  exact ⟨rfl, rfl⟩

/-- A file, as find tells it. -/
def FindPost (w : World) (st : DkSt) (n : List UInt8) (e : Ending) (w' : World) : Prop :=
  Below w.heap.size w w' ∧ ∃ a b : ByteArray,
    (if st.dark then a.data.toList = [] ∧ b.data.toList = [] ∧ e = .returned (.tuple #[fileV a b, .int .i64 45])
     else match fsGet st.fs n with
      | none => a.data.toList = [] ∧ b.data.toList = [] ∧ e = .returned (.tuple #[fileV a b, .int .i64 5])
      | some f => a.data.toList = f.firm ∧ b.data.toList = f.pend ∧ e = .returned (.tuple #[fileV a b, .int .i64 0]))

/-- What a look-up gives: the file, or one without bytes. -/
def GotFile (fs : Fs) (n : List UInt8) (a b : ByteArray) : Prop :=
  match fsGet fs n with
  | some f => a.data.toList = f.firm ∧ b.data.toList = f.pend
  | none => a.data.toList = [] ∧ b.data.toList = []
theorem gotFile_of {fs : Fs} {n : List UInt8} {v : Value} {ps : List MemPlace} (hv : fileElem v = some ((fsD fs).atKey (.string n) (.agg [.lit (.string []), .lit (.string [])]), ps)) : ∃ a b, v = fileV a b ∧ GotFile fs n a b := by
  rw [at_fs] at hv
  unfold GotFile
  cases h : fsGet fs n with
  | some f => rw [h] at hv; obtain ⟨a, b, h1, h2, h3⟩ := fileElem_file hv; exact ⟨a, b, h1, h2, h3⟩
  | none => rw [h] at hv; obtain ⟨a, b, h1, h2, h3⟩ := fileElem_file (f := ⟨[], [], []⟩) hv; exact ⟨a, b, h1, h2, h3⟩

theorem wpList_look_ok (w : World) {ops : Array Oper} {rest : List Oper} {o : Oper} {a : Act} {Q : Exit → Act → World → Prop} (hg : o.guard = none) (m x : Operand) (hop : o.op = Op.lookup 88 m x true)
    (b : Nat) (fs : Fs) (hm : a.eval m = .map (some b)) (hown : w.ownsMap Tryz.prog 9 fileElem b fs.length (fsD fs)) (n : ByteArray) (hx : a.eval x = .string n) (hn : n.size ≤ maxLen)
    (hK : ∀ f1 f2, GotFile fs n.data.toList f1 f2 → wpList Tryz.prog ops Q rest (a.put o.dst (.tuple #[.agg #[.string f1, .string f2], .bool (fsGet fs n.data.toList).isSome])) w) : wpList Tryz.prog ops Q (o :: rest) a w :=
  wpList_lookup_own_ok w hg m x _ hop 9 93 Tryz.strKey Tryz.underlying88 fileElem (Tryz.zeroFile _) _ [] (fileElem_mk _ _) b fs.length (fsD fs) hm hown _ _ hx (WideMaps.keyOf_string_mk Tryz.underlying9 hn)
    (fun v ps hv => by obtain ⟨f1, f2, rfl, hf⟩ := gotFile_of hv; rw [has_fs]; exact hK f1 f2 hf)

theorem cellsR {w : World} {r : Nat} {c : Array Value} {t : TypeId} (h : w.heap[r]? = some (.cells c t (0, 0))) (j : Nat) : w.cell? ⟨r, j, none⟩ = c[j]? := cell_of_row w r j c t (0, 0) h

set_option maxRecDepth 100000 in
set_option maxHeartbeats 1000000 in
theorem dk_find (w : World) (p b : Nat) (st : DkSt) (h : IsDk w p b st) (n : ByteArray) (hn : n.size ≤ maxLen) :
    Calls Tryz.prog 51 #[.pointer (some ⟨p, 0, none⟩), .string n] w fun e w' => FindPost w st n.data.toList e w' := by
  have H := Lib.hid h
  have H1 := Lib.hid (h.pure ((Below.refl _ _).alloc (Nat.le_refl _) (.cells #[.string ⟨#[]⟩, .string ⟨#[]⟩] 93)))
  have hp := h.lt
  have hbl := h.own.lt
  obtain ⟨c0, c1, c2, c3⟩ := h.cs
  clear h
  cases hd : st.dark
  · have HD := Lib.hid hd
    clear hd
    go_enter Tryz.func51, Tryz.ntmps51
    go_wp2_with fail
    refine (dk_down _ p b st H1.out).mono ?_
    rintro e w1 ⟨rfl, rfl⟩
    rw [HD.out]
    cases hget : fsGet st.fs n.data.toList with
    | none =>
      have HG := Lib.hid hget
      clear hget
      go_wp2_with (at_lookup; refine wpList_look_ok _ rfl _ _ rfl b st.fs rfl H1.out.own n rfl hn ?_; intro f1 f2 hf; have HF := Lib.hid hf; clear hf; rw [HG.out])
      refine bodyPost_ret (v := .tuple #[fileV ⟨#[]⟩ ⟨#[]⟩, .int .i64 5]) (by simp [results, Tryz.results51, go_sem]; rfl) rfl ⟨?_, ⟨#[]⟩, ⟨#[]⟩, ?_⟩
      · exact (((Below.refl _ _).alloc (Nat.le_refl _) _).alloc (by simp) _)
      · rw [HD.out, HG.out]; exact ⟨rfl, rfl, rfl⟩
    | some f =>
      have HG := Lib.hid hget
      clear hget
      go_wp2_with (at_lookup; refine wpList_look_ok _ rfl _ _ rfl b st.fs rfl H1.out.own n rfl hn ?_; intro f1 f2 hf; have HF := Lib.hid hf; clear hf; rw [HG.out])
      refine bodyPost_ret (v := .tuple #[fileV f1 f2, .int .i64 0]) (by simp [results, Tryz.results51, go_sem]; rfl) rfl ⟨?_, f1, f2, ?_⟩
      · exact (((Below.refl _ _).alloc (Nat.le_refl _) _).alloc (by simp) _)
      · have hf := HF.out
        unfold GotFile at hf
        rw [HG.out] at hf
        rw [HD.out, HG.out]; exact ⟨hf.1, hf.2, rfl⟩
  · have HD := Lib.hid hd
    clear hd
    go_enter Tryz.func51, Tryz.ntmps51
    go_wp2_with fail
    refine (dk_down _ p b st H1.out).mono ?_
    rintro e w1 ⟨rfl, rfl⟩
    rw [HD.out]
    go_wp2
    refine bodyPost_ret (v := .tuple #[fileV ⟨#[]⟩ ⟨#[]⟩, .int .i64 45]) (by simp [results, Tryz.results51, go_sem]; rfl) rfl ⟨?_, ⟨#[]⟩, ⟨#[]⟩, ?_⟩
    · exact (Below.refl _ _).alloc (Nat.le_refl _) _
    · rw [HD.out]; exact ⟨rfl, rfl, rfl⟩

set_option maxHeartbeats 400000 in
theorem file_size (w : World) (a b : ByteArray) (h : a.size + b.size ≤ 9223372036854775807) :
    Calls Tryz.prog 70 #[.agg #[.string a, .string b]] w fun e w' => e = .returned (.int .i64 ((a.size + b.size : Nat) : Int)) ∧ Below w.heap.size w w' := by
  go_enter Tryz.func70, Tryz.ntmps70
  go_wp2
  go_ret
  exact ⟨ret_int (by simp), (Below.refl _ _).alloc (Nat.le_refl _) _⟩
end Go.Proofs.YteikdcobpfohcaaGreatDoor
