/- The reference's disk: put and drop. -/
import Derived.Test.YtppghhophaobdaaGreatDoorRfF
import Derived.Deep.RegionHeld3
import Derived.Deep.DeepCutAuto
namespace Go.Proofs.YtppghhophaobdaaGreatDoor
open Go.RowKit Go.Maps Go.Sort

theorem ins_sorted {f : FileS} {r : Fs} (hs : Sorted r) (hne : ∀ g ∈ r, g.name ≠ f.name) : Sorted (fsIns f r) := by
  induction r with
  | nil => exact List.pairwise_singleton _ _
  | cons g r ih =>
    obtain ⟨h1, h2⟩ := List.pairwise_cons.1 hs
    unfold fsIns
    split
    · rename_i hb
      refine List.pairwise_cons.2 ⟨fun x hx => ?_, hs⟩
      rcases List.mem_cons.1 hx with rfl | hx
      · exact hb
      · exact before_trans hb (h1 x hx)
    · rename_i hb
      have hg : bytesBefore g.name f.name = true := by
        rcases Go.WideAt.bytes_total g.name f.name (hne g (by simp)) with h | h
        · exact h
        · exact absurd h hb
      refine List.pairwise_cons.2 ⟨fun x hx => ?_, ih h2 (fun x hx => hne x (by simp [hx]))⟩
      rcases mem_ins.1 hx with rfl | hx
      · exact hg
      · exact h1 x hx
theorem FsOk.del {fs : Fs} (h : FsOk fs) (n : List UInt8) : FsOk (fsDel fs n) :=
  ⟨h.sorted.filter _, (h.keep.del n).few, (h.keep.del n).small, (h.keep.del n).names⟩
theorem FsOk.put {fs : Fs} (h : FsOk fs) {f : FileS} (hl : (fsDel fs f.name).length < 64) (hs : f.firm.length + f.pend.length ≤ 1048576) (hn : f.name.length ≤ 24) : FsOk (fsPut fs f) :=
  ⟨ins_sorted (h.del _).sorted (fun _ hg => (mem_del.1 hg).2), (h.keep.put hl hs hn).few, (h.keep.put hl hs hn).small, (h.keep.put hl hs hn).names⟩

theorem FilesAt.drop {w : World} {g n c : Nat} {l : Fs} (h : FilesAt w (.slice (some ⟨g, 0, none⟩) n c) l) (i : Nat) (hi : i ≤ l.length) (hc : l.length ≤ c) : FilesAt w (.slice (if c = i then some ⟨g, 0, none⟩ else some ⟨g, i * 3, none⟩) (l.length - i) (c - i)) (l.drop i) := by
  obtain ⟨a', c', e, h⟩ := h
  cases e
  refine ⟨_, _, by rw [List.length_drop], ?_⟩
  by_cases hn : i = l.length
  · left; rw [hn]; exact List.drop_length
  · right
    rw [if_neg (by omega)]
    rcases h with h | ⟨b, o, e, h⟩
    · subst h; simp at hn hi; omega
    · cases e
      refine ⟨g, i * 3, rfl, fun j hj => ?_⟩
      rw [List.length_drop] at hj
      obtain ⟨x, y, z, e1, e2, e3, h1, h2, h3⟩ := h (i + j) (by omega)
      rw [Nat.zero_add, Nat.add_mul] at h1 h2 h3
      exact ⟨x, y, z, by rw [List.getElem_drop]; exact e1, by rw [List.getElem_drop]; exact e2, by rw [List.getElem_drop]; exact e3, h1, h2, h3⟩

theorem FilesAt.grown {w w' : World} {sv : Value} {l : Fs} {row : Option Nat} (h : FilesAt w sv l) (hg : w.grownBy w' row) (hne : ∀ j, sv.ownBlock = some j → row ≠ some j) : FilesAt w' sv l :=
  h.kept (S := fun k => row = some k) ((Fr.refl _ w).grown hg (fun _ _ e => e)) (fun j e => hne j e)
theorem files_kept2 {w w' : World} {q p m c : Nat} {l : Fs} (h : FilesAt w (.slice (some ⟨q, 0, none⟩) m c) l) (hg : w.grownBy w' (some p)) (hne : q ≠ p) : FilesAt w' (.slice (some ⟨q, 0, none⟩) m c) l :=
  h.grown hg (fun j e e2 => hne ((Option.some.inj (show some q = some j from e)).trans (Option.some.inj e2).symm))
theorem FilesAt.more {w : World} {sv : Value} {l : Fs} (h : FilesAt w sv l) (o : Obj) : FilesAt (w.alloc o) sv l := h.pure ((Below.refl _ _).alloc (Nat.le_refl _) _)
theorem files_one (w : World) (n a b : ByteArray) : FilesAt (w.alloc (.cells #[.string n, .string a, .string b] 91)) (.slice (some ⟨w.heap.size, 0, none⟩) 1 1) [⟨n.data.toList, a.data.toList, b.data.toList⟩] :=
  ⟨_, 1, rfl, .inr ⟨w.heap.size, 0, rfl, fun i hi => by
    obtain rfl : i = 0 := by simp at hi; omega
    refine ⟨n, a, b, rfl, rfl, rfl, ?_, ?_, ?_⟩ <;> rw [World.cell?_alloc_at _ _ _ _ rfl] <;> rfl⟩⟩
theorem own_none (w : World) : OwnFiles (w.alloc (.cells #[] 91)) (.slice (some ⟨w.heap.size, 0, none⟩) 0 0) [] := World.ownsRow_made w #[] 0 (Nat.zero_le _) (by unfold maxLen; omega) rfl
theorem own_none' (w : World) (p : Nat) (hp : p = w.heap.size) : OwnFiles (w.alloc (.cells #[] 91)) (.slice (some ⟨p, 0, none⟩) ([] : Fs).length 0) [] := by subst hp; exact own_none w
theorem OwnFiles.drew {w : World} {v : Value} {l : Fs} (h : OwnFiles w v l) : OwnFiles w.drew v l := World.ownsRow.drew h
theorem OwnFiles.alloc {w : World} {v : Value} {l : Fs} (h : OwnFiles w v l) (o : Obj) : OwnFiles (w.alloc o) v l := World.ownsRow.alloc h o
theorem FilesAt.drew {w : World} {v : Value} {l : Fs} (h : FilesAt w v l) : FilesAt w.drew v l := h.pure (Below.refl _ _).drew
theorem files_one' (w : World) (p : Nat) (hp : p = w.heap.size) (n a b : ByteArray) : FilesAt (w.alloc (.cells #[.string n, .string a, .string b] 91)) (.slice (some ⟨p, 0, none⟩) ([⟨n.data.toList, a.data.toList, b.data.toList⟩] : Fs).length 1) [⟨n.data.toList, a.data.toList, b.data.toList⟩] := by subst hp; exact files_one w n a b
theorem own_some_shape {w : World} {v : Value} {l : Fs} (h : OwnFiles w v l) (hv : v ≠ .slice none 0 0) : ∃ g c, v = .slice (some ⟨g, 0, none⟩) l.length c ∧ l.length ≤ c ∧ g < w.heap.size := by
  rcases h.2 with ⟨h, _⟩ | ⟨g, cap, cur, rfl, _, hh, hc, _⟩
  · exact absurd h hv
  · exact ⟨g, cap, rfl, hc, lt_of_block hh⟩
theorem rf_row {w w' : World} {p n c : Nat} {v' : Value} {L : Fs} (h2 : OwnFiles w' v' L) (h4 : v'.ownBlock = (Value.slice (some ⟨p, 0, none⟩) n c).ownBlock ∨ v'.ownBlock = some w.heap.size) (h5 : Value.slice (some ⟨p, 0, none⟩) n c ≠ .slice none 0 0 → v' ≠ .slice none 0 0) :
    ∃ g' c', v' = .slice (some ⟨g', 0, none⟩) L.length c' ∧ L.length ≤ c' ∧ (g' = p ∨ g' = w.heap.size) ∧ g' < w'.heap.size := by
  obtain ⟨g', c', rfl, h6, h7⟩ := own_some_shape h2 (h5 (by simp))
  refine ⟨g', c', rfl, h6, ?_, h7⟩
  rcases h4 with h | h
  · exact .inl (Option.some.inj (show some g' = some p from h))
  · exact .inr (Option.some.inj (show some g' = some w.heap.size from h))
theorem wpList_rfrow {ops : Array Oper} {rest : List Oper} {o : Oper} {a : Act} {w : World} {Q : Exit → Act → World → Prop} (hgd : o.guard = none) (s x : Operand)
    (ho : o.op = .call { callee := .builtin .append, args := #[s, x], argTypes := #[22, 22] })
    (p n c : Nat) (A : Fs) (hs : a.eval s = .slice (some ⟨p, 0, none⟩) n c) (hnA : n = A.length) (hown : OwnFiles w (.slice (some ⟨p, 0, none⟩) A.length c) A) (src : Option Addr) (m d : Nat) (B : Fs) (hx : a.eval x = .slice src m d) (hmB : m = B.length) (hB : FilesAt w (.slice src B.length d) B) (hn : A.length + B.length ≤ 1000000)
    (h : ∀ g' c' w', OwnFiles w' (.slice (some ⟨g', 0, none⟩) (A ++ B).length c') (A ++ B) → (A ++ B).length ≤ c' → w.grownBy w' (some p) → (g' = p ∨ g' = w.heap.size) → g' < w'.heap.size → wpList Tryz.prog ops Q rest (a.put o.dst (.slice (some ⟨g', 0, none⟩) (A ++ B).length c')) w') : wpList Tryz.prog ops Q (o :: rest) a w :=
  wpList_rfapp hgd s x ho _ A (hs.trans (by rw [hnA])) hown _ B (hx.trans (by rw [hmB])) hB hn fun v' w' h2 h3 h4 h5 => by
    obtain ⟨g', c', rfl, h6, h7, h8⟩ := rf_row h2 h4 h5
    exact h g' c' w' h2 h6 h3 h7 h8
theorem step_rfrow {ops : Array Oper} {o : Oper} {a : Act} {w : World} {K : Act → World → Prop} {Q : Exit → Act → World → Prop} {E : Prop} (hgd : o.guard = none) (s x : Operand)
    (ho : o.op = .call { callee := .builtin .append, args := #[s, x], argTypes := #[22, 22] })
    (p n c : Nat) (A : Fs) (hs : a.eval s = .slice (some ⟨p, 0, none⟩) n c) (hnA : n = A.length) (hown : OwnFiles w (.slice (some ⟨p, 0, none⟩) A.length c) A) (src : Option Addr) (m d : Nat) (B : Fs) (hx : a.eval x = .slice src m d) (hmB : m = B.length) (hB : FilesAt w (.slice src B.length d) B) (hn : A.length + B.length ≤ 1000000)
    (h : ∀ g' c' w', OwnFiles w' (.slice (some ⟨g', 0, none⟩) (A ++ B).length c') (A ++ B) → (A ++ B).length ≤ c' → w.grownBy w' (some p) → (g' = p ∨ g' = w.heap.size) → g' < w'.heap.size → K (a.put o.dst (.slice (some ⟨g', 0, none⟩) (A ++ B).length c')) w') :
    if Region.wanted o (yielded ops a.tmps) = true then Oper.wp Tryz.prog o a w K Q else E :=
  step_rfapp hgd s x ho _ A (hs.trans (by rw [hnA])) hown _ B (hx.trans (by rw [hmB])) hB hn fun v' w' h2 h3 h4 h5 => by
    obtain ⟨g', c', rfl, h6, h7, h8⟩ := rf_row h2 h4 h5
    exact h g' c' w' h2 h6 h3 h7 h8
theorem IsRf.put {w : World} {x g c : Nat} {st : DkSt} (h : IsRf w x g c st) {g' c' : Nat} {fs' : Fs} (hown : OwnFiles w (.slice (some ⟨g', 0, none⟩) fs'.length c') fs') (hc : fs'.length ≤ c') (hne : g' ≠ x) (hok : DkOk { st with fs := fs' }) :
    IsRf (w.setCell ⟨x, 0, none⟩ (.slice (some ⟨g', 0, none⟩) fs'.length c')) x g' c' { st with fs := fs' } :=
  ⟨heap_setCell_same w x 0 _ _ _ h.cell, ownsRow_setCell_other (a := ⟨x, 0, none⟩) hown (fun e => hne (Option.some.inj (show some g' = some x from e))) _, hc, hne, hok⟩

/-- What something that is done to the reference's disk leaves. -/
def RfTo (x g : Nat) (w : World) (st : DkSt) (w' : World) : Prop := ∃ g' c', IsRf w' x g' c' st ∧ (g' = g ∨ w.heap.size ≤ g') ∧ Fr (fun k => k = x ∨ k = g) w w'

theorem put_end {w : World} {x g c g' c' : Nat} {st : DkSt} {L fs' : Fs} (h : IsRf w x g c st) (hown : OwnFiles w (.slice (some ⟨g', 0, none⟩) L.length c') L) (hc : L.length ≤ c') (hne : g' ≠ x) (hL : L = fs') (n : Nat) (hn : n = L.length) (hok : DkOk { st with fs := fs' }) :
    IsRf (w.setCell ⟨x, 0, none⟩ (.slice (some ⟨g', 0, none⟩) n c')) x g' c' { st with fs := fs' } := by
  subst hL hn
  exact h.put hown hc hne hok

set_option maxRecDepth 100000 in
set_option maxHeartbeats 40000000 in
theorem rf_put (w : World) (x g c : Nat) (st : DkSt) (h : IsRf w x g c st) (n a b : ByteArray) (hok : DkOk { st with fs := fsPut st.fs ⟨n.data.toList, a.data.toList, b.data.toList⟩ }) :
    Calls Tryz.prog 138 #[.pointer (some ⟨x, 0, none⟩), .agg #[.string n, .string a, .string b]] w fun e w' => e = .returned (.tuple #[]) ∧ RfTo x g w { st with fs := fsPut st.fs ⟨n.data.toList, a.data.toList, b.data.toList⟩ } w' := by
  have hbz : Below w.heap.size w (w.alloc (.cells #[.string n, .string a, .string b] 91)) := (Below.refl _ _).alloc (Nat.le_refl _) _
  have HB0 := Lib.hid hbz
  have H0 := Lib.hid (h.pure hbz)
  have HOK := Lib.hid hok
  have hle := h.le
  have hf64 := h.ok.fs.few
  have hi := atN_le st.fs n.data.toList
  have hx := h.lt
  clear h hbz hok
  go_enter Tryz.func138, Tryz.ntmps138
  go_wp2_with fail
  refine (rf_at _ x g c st H0.out n).mono ?_
  rintro e w1 ⟨rfl, q, rfl⟩
  have H1 : Hid (IsRf ((w.alloc (.cells #[.string n, .string a, .string b] 91)).drewN q) x g c st) := ⟨H0.out.cell, H0.out.own, H0.out.le, H0.out.ne, H0.out.ok⟩
  obtain ⟨c0, _, _, _⟩ := H1.out.cs
  have n0 : ((w.alloc (.cells #[.string n, .string a, .string b] 91)).drewN q).heap[w.heap.size]? = some (.cells #[.string n, .string a, .string b] 91 (0, 0)) := alloc_at_top _ _ rfl
  have B1 := Lib.hid (show Below w.heap.size w ((w.alloc (.cells #[.string n, .string a, .string b] 91)).drewN q) from rf_drewN HB0.out q)
  generalize hi0 : atN st.fs n.data.toList = i at *
  generalize ((w.alloc (.cells #[.string n, .string a, .string b] 91)).drewN q) = w1 at *
  have HI := Lib.hid hi0
  have HN0 := Lib.hid n0
  have hii : ((i : Nat) : Int) ≤ ((st.fs.length : Nat) : Int) := by omega
  have hcc : ((i : Nat) : Int) ≤ ((c : Nat) : Int) := by omega
  clear hi0 n0
  have hx1 := H1.out.lt
  have hg1 := H1.out.ltg
  have tok1 : True := trivial
  have OE := Lib.hid (show OwnFiles (w1.alloc (.cells #[] 91)) (.slice (some ⟨w1.heap.size, 0, none⟩) 0 0) [] from World.ownsRow_made w1 #[] 0 (by omega) (by unfold maxLen; omega) rfl)
  have SE := Lib.hid (FilesAt.drop (OwnFiles.at (World.ownsRow.alloc H1.out.own (.cells #[] 91))) i hi hle)
  cases his : isN st.fs n.data.toList
  · go_upto_region 5 with (at_builtin; have _t := tok1; refine wpList_rfrow rfl _ _ rfl w1.heap.size 0 0 [] rfl rfl OE.out _ _ _ (st.fs.drop i) rfl (by rw [List.length_drop]) (by rw [List.length_drop]; exact SE.out) (by rw [List.length_drop]; simp; omega) ?_; intro g2 c2 w2 hown2 hc2 hgrow2 hat2 hlt2; clear tok1; have HO2 := Lib.hid hown2; have HG2 := Lib.hid hgrow2; clear hown2 hgrow2 hat2)
    have hfr2 : Below w1.heap.size w1 w2 := ((Below.refl w1.heap.size w1).alloc (Nat.le_refl _) _).grown HG2.out (by simp) (fun k e => by have e2 : w1.heap.size = k := Option.some.inj e; omega)
    have H2 := Lib.hid (H1.out.pure hfr2)
    obtain ⟨k0, _, _, _⟩ := H2.out.cs
    have hn2 := (hfr2.block _ (lt_of_block HN0.out)).trans HN0.out
    have f0 : w2.cell? ⟨w.heap.size, 0, none⟩ = some (.string n) := by rw [cell_of_row _ _ _ _ _ _ hn2]; rfl
    have f1 : w2.cell? ⟨w.heap.size, 1, none⟩ = some (.string a) := by rw [cell_of_row _ _ _ _ _ _ hn2]; rfl
    have f2 : w2.cell? ⟨w.heap.size, 2, none⟩ = some (.string b) := by rw [cell_of_row _ _ _ _ _ _ hn2]; rfl
    have hx2 := H2.out.lt
    have zf := H2.out.fz 0
    have hg2 := H2.out.ltg
    have hnl2 := lt_of_block hn2
    have B2 := Lib.hid (B1.out.trans (hfr2.mono B1.out.size))
    have HS1 := Lib.hid (show ∀ W, Below w2.heap.size w2 W → FilesAt W (.slice (some ⟨g, 0, none⟩) i c) (st.fs.take i) from fun W hW => ((H2.out.own.at).take i hi).pure hW)
    have HS2 := Lib.hid (show ∀ W, Below w2.heap.size w2 W → FilesAt W (.slice (some ⟨g2, 0, none⟩) ([] ++ st.fs.drop i).length c2) ([] ++ st.fs.drop i) from fun W hW => (HO2.out.at).pure hW)
    have HIS := Lib.hid his
    clear his hn2 hfr2 c0 hx1 hg1
    have tok1 : True := trivial
    have tok2 : True := trivial
    have tok3 : True := trivial
    have D0 := Lib.hid (show Below w2.heap.size w2 w2.drew from (Below.refl _ _).drew)
    have HLL := Lib.hid (show ([] ++ st.fs.take i) ++ [⟨n.data.toList, a.data.toList, b.data.toList⟩] ++ ([] ++ st.fs.drop i) = fsPut st.fs ⟨n.data.toList, a.data.toList, b.data.toList⟩ by
      have := ((at_all H2.out.ok.fs.sorted n.data.toList).2 HIS.out).2.2 ⟨n.data.toList, a.data.toList, b.data.toList⟩ rfl
      rw [HI.out] at this
      rw [this]; simp)
    have hK0 := Lib.hid k0
    go_region_law (first
      | (have _t := tok1; refine step_rfrow (by rfl) _ _ (by rfl) _ 0 0 [] (by rfl) rfl (by repeat (first | (with_reducible refine own_none' _ _ ?_; (first | rfl | (simp; done) | (simp; omega))) | (with_reducible refine OwnFiles.drew ?_) | (with_reducible refine OwnFiles.alloc ?_ _))) (some ⟨g, 0, none⟩) _ c (st.fs.take i) (by rfl) (by first | rfl | (simp; done) | (simp; omega)) (by rw [List.length_take, Nat.min_eq_left hi]; exact HS1.out _ (by repeat (first | exact Below.refl _ _ | refine Below.drew ?_ | refine Below.alloc ?_ (by first | (simp; done) | (simp; omega) | omega) _))) (by rw [List.length_take]; simp; omega) ?_; intro g3 c3 w3 hown3 hc3 hgrow3 hat3 hlt3; clear tok1; have HO3 := Lib.hid hown3; have HG3 := Lib.hid hgrow3; clear hown3; have hb3 := Below.grown (show Below w2.heap.size w2 _ from (by repeat (first | exact Below.refl _ _ | refine Below.drew ?_ | refine Below.alloc ?_ (by first | (simp; done) | (simp; omega) | omega) _))) hgrow3 (by first | (simp; done) | (simp; omega)) (fun k e => by have e2 := Option.some.inj e; omega); have HB3 := Lib.hid hb3; have hsz3 := hgrow3.size; (try simp at hsz3 hat3); have y0 := (hb3.cell (p := ⟨x, 0, none⟩) hx2).trans hK0.out; have y1 := (hb3.cell (p := ⟨w.heap.size, 0, none⟩) hnl2).trans f0; have y2 := (hb3.cell (p := ⟨w.heap.size, 1, none⟩) hnl2).trans f1; have y3 := (hb3.cell (p := ⟨w.heap.size, 2, none⟩) hnl2).trans f2; clear hb3; clear hgrow3)
      | (have _t := tok2; refine step_rfrow (by rfl) _ _ (by rfl) g3 _ c3 ([] ++ st.fs.take i) (by rfl) (by first | rfl | (simp; done) | (simp; omega)) (by repeat (first | (with_reducible exact HO3.out) | (with_reducible refine OwnFiles.drew ?_) | (with_reducible refine OwnFiles.alloc ?_ _))) (some ⟨_, 0, none⟩) 1 1 [⟨n.data.toList, a.data.toList, b.data.toList⟩] (by rfl) rfl (by first | (with_reducible refine files_one' _ _ ?_ n a b; (first | rfl | (simp; done) | (simp; omega))) | (with_reducible refine FilesAt.drew ?_; with_reducible refine files_one' _ _ ?_ n a b; (first | rfl | (simp; done) | (simp; omega))) | (refine files_kept2 ?_ HG3.out ?_; rotate_left; omega; with_reducible refine files_one' _ _ ?_ n a b; (first | rfl | (simp; done) | (simp; omega))) | (refine files_kept2 ?_ HG3.out ?_; rotate_left; omega; with_reducible refine FilesAt.drew ?_; with_reducible refine files_one' _ _ ?_ n a b; (first | rfl | (simp; done) | (simp; omega))) | (refine files_kept2 ?_ HG3.out ?_; rotate_left; omega; with_reducible refine FilesAt.drew ?_; with_reducible refine FilesAt.more ?_ _; with_reducible refine files_one' _ _ ?_ n a b; (first | rfl | (simp; done) | (simp; omega)))) (by rw [List.nil_append, List.length_take]; simp; omega) ?_; intro g4 c4 w4 hown4 hc4 hgrow4 hat4 hlt4; clear tok2; have HO4 := Lib.hid hown4; clear hown4; have hb4 := Below.grown (show Below w2.heap.size w2 _ from (by repeat (first | exact HB3.out | refine Below.drew ?_ | refine Below.alloc ?_ (by first | omega | (simp; omega)) _))) hgrow4 (by first | omega | (simp; omega)) (fun k e => by have e2 := Option.some.inj e; omega); have HB4 := Lib.hid hb4; have hsz4 := hgrow4.size; (try simp at hsz4 hat4); have y0 := (hb4.cell (p := ⟨x, 0, none⟩) hx2).trans hK0.out; have y1 := (hb4.cell (p := ⟨w.heap.size, 0, none⟩) hnl2).trans f0; have y2 := (hb4.cell (p := ⟨w.heap.size, 1, none⟩) hnl2).trans f1; have y3 := (hb4.cell (p := ⟨w.heap.size, 2, none⟩) hnl2).trans f2; clear hb4 hgrow4)
      | (have _t := tok3; refine step_rfrow (by rfl) _ _ (by rfl) g4 _ c4 (([] ++ st.fs.take i) ++ [⟨n.data.toList, a.data.toList, b.data.toList⟩]) (by rfl) (by first | rfl | (simp; done) | (simp; omega)) (by repeat (first | (with_reducible exact HO4.out) | (with_reducible refine OwnFiles.drew ?_) | (with_reducible refine OwnFiles.alloc ?_ _))) (some ⟨g2, 0, none⟩) _ c2 ([] ++ st.fs.drop i) (by rfl) (by first | rfl | (simp; done) | (simp; omega)) (HS2.out _ (by repeat (first | exact HB4.out | refine Below.drew ?_ | refine Below.alloc ?_ (by first | omega | (simp; omega)) _))) (by simp; omega) ?_; intro g5 c5 w5 hown5 hc5 hgrow5 hat5 hlt5; clear tok3; (try simp at hat5); have HO5 := Lib.hid hown5; clear hown5; have hb5 := Below.grown (show Below w2.heap.size w2 _ from (by repeat (first | exact HB4.out | refine Below.drew ?_ | refine Below.alloc ?_ (by first | omega | (simp; omega)) _))) hgrow5 (by first | omega | (simp; omega)) (fun k e => by have e2 := Option.some.inj e; omega); have HB5 := Lib.hid hb5; have y0 := (hb5.cell (p := ⟨x, 0, none⟩) hx2).trans hK0.out; have y1 := (hb5.cell (p := ⟨w.heap.size, 0, none⟩) hnl2).trans f0; have y2 := (hb5.cell (p := ⟨w.heap.size, 1, none⟩) hnl2).trans f1; have y3 := (hb5.cell (p := ⟨w.heap.size, 2, none⟩) hnl2).trans f2; have z0 : w5.frozen? ⟨x, 0, none⟩ = false := (hb5.frozen (p := ⟨x, 0, none⟩) hx2).trans zf; clear hb5 hgrow5)
      | fail)
    all_goals
      go_wp2
      all_goals
        go_end0
        all_goals exact ⟨rfl, g5, c5, put_end (H2.out.pure HB5.out) HO5.out hc5 (by omega) HLL.out _ (by simp; omega) HOK.out, .inr (by have := B2.out.size; omega), (Fr.pure (S := fun k => k = x ∨ k = g) (B2.out.trans (HB5.out.mono B2.out.size))).setCell ⟨x, 0, none⟩ (fun _ => .inl rfl) _⟩
  · have hil : i < st.fs.length := by
      have := ((at_all H1.out.ok.fs.sorted n.data.toList).1 his).choose
      rwa [HI.out] at this
    have hi1 : ((i : Nat) : Int) + 1 ≤ ((st.fs.length : Nat) : Int) := by omega
    have hi1c : ((i : Nat) : Int) + 1 ≤ ((c : Nat) : Int) := by omega
    have HIS0 := Lib.hid his
    have se := SE.out
    rw [if_neg (show ¬ c = i by omega)] at se
    have SEN := Lib.hid se
    clear se
    go_upto_region 5 with (first
      | (at_builtin; have _t := tok1; refine wpList_rfrow rfl _ _ rfl w1.heap.size 0 0 [] rfl rfl OE.out _ _ _ (st.fs.drop i) rfl (by rw [List.length_drop]) (by rw [List.length_drop]; exact SEN.out) (by rw [List.length_drop]; simp; omega) ?_; intro ga ca wa howna hca hgrowa hata hlta; clear tok1 howna hata; have hfa : Go.RowKit.Below w1.heap.size w1 wa := ((Below.refl w1.heap.size w1).alloc (Nat.le_refl _) _).grown hgrowa (by simp) (fun k e => by have e2 : w1.heap.size = k := Option.some.inj e; omega); have HFA := Lib.hid hfa; have HA := Lib.hid (H1.out.pure hfa); have hka := HA.out.cs.1; have hxa := HA.out.lt; have OEA := Lib.hid (own_none' wa _ rfl); have SEA := Lib.hid (FilesAt.drop (OwnFiles.at (World.ownsRow.alloc HA.out.own (.cells #[] 91))) (i + 1) hil hle); clear hfa hgrowa)
      | (at_builtin; refine wpList_rfrow rfl _ _ rfl wa.heap.size 0 0 [] rfl rfl OEA.out _ _ _ (st.fs.drop (i + 1)) rfl (by rw [List.length_drop]) (by rw [List.length_drop]; exact SEA.out) (by rw [List.length_drop]; simp; omega) ?_; intro g2 c2 w2 hown2 hc2 hgrow2 hat2 hlt2; have HO2 := Lib.hid hown2; have HG2 := Lib.hid hgrow2; clear hown2 hgrow2 hat2 hka)
      | fail)
    have hfr2 : Below w1.heap.size w1 w2 := HFA.out.trans ((((Below.refl wa.heap.size wa).alloc (Nat.le_refl _) _).grown HG2.out (by simp) (fun k e => by have e2 : wa.heap.size = k := Option.some.inj e; omega)).mono HFA.out.size)
    have H2 := Lib.hid (H1.out.pure hfr2)
    obtain ⟨k0, _, _, _⟩ := H2.out.cs
    have hn2 := (hfr2.block _ (lt_of_block HN0.out)).trans HN0.out
    have f0 : w2.cell? ⟨w.heap.size, 0, none⟩ = some (.string n) := by rw [cell_of_row _ _ _ _ _ _ hn2]; rfl
    have f1 : w2.cell? ⟨w.heap.size, 1, none⟩ = some (.string a) := by rw [cell_of_row _ _ _ _ _ _ hn2]; rfl
    have f2 : w2.cell? ⟨w.heap.size, 2, none⟩ = some (.string b) := by rw [cell_of_row _ _ _ _ _ _ hn2]; rfl
    have hx2 := H2.out.lt
    have zf := H2.out.fz 0
    have hg2 := H2.out.ltg
    have hnl2 := lt_of_block hn2
    have B2 := Lib.hid (B1.out.trans (hfr2.mono B1.out.size))
    have HS1 := Lib.hid (show ∀ W, Below w2.heap.size w2 W → FilesAt W (.slice (some ⟨g, 0, none⟩) i c) (st.fs.take i) from fun W hW => ((H2.out.own.at).take i hi).pure hW)
    have HS2 := Lib.hid (show ∀ W, Below w2.heap.size w2 W → FilesAt W (.slice (some ⟨g2, 0, none⟩) ([] ++ st.fs.drop (i + 1)).length c2) ([] ++ st.fs.drop (i + 1)) from fun W hW => (HO2.out.at).pure hW)
    have HIS := HIS0
    clear hn2 hfr2 c0 hx1 hg1
    try clear his
    have tok1 : True := trivial
    have tok2 : True := trivial
    have tok3 : True := trivial
    have D0 := Lib.hid (show Below w2.heap.size w2 w2.drew from (Below.refl _ _).drew)
    have HLL := Lib.hid (show ([] ++ st.fs.take i) ++ [⟨n.data.toList, a.data.toList, b.data.toList⟩] ++ ([] ++ st.fs.drop (i + 1)) = fsPut st.fs ⟨n.data.toList, a.data.toList, b.data.toList⟩ by
      have := ((at_all H2.out.ok.fs.sorted n.data.toList).1 HIS.out).choose_spec.2.2.2 ⟨n.data.toList, a.data.toList, b.data.toList⟩ rfl
      rw [HI.out] at this
      rw [this]; simp)
    have hK0 := Lib.hid k0
    go_region_law (first
      | (have _t := tok1; refine step_rfrow (by rfl) _ _ (by rfl) _ 0 0 [] (by rfl) rfl (by repeat (first | (with_reducible refine own_none' _ _ ?_; (first | rfl | (simp; done) | (simp; omega))) | (with_reducible refine OwnFiles.drew ?_) | (with_reducible refine OwnFiles.alloc ?_ _))) (some ⟨g, 0, none⟩) _ c (st.fs.take i) (by rfl) (by first | rfl | (simp; done) | (simp; omega)) (by rw [List.length_take, Nat.min_eq_left hi]; exact HS1.out _ (by repeat (first | exact Below.refl _ _ | refine Below.drew ?_ | refine Below.alloc ?_ (by first | (simp; done) | (simp; omega) | omega) _))) (by rw [List.length_take]; simp; omega) ?_; intro g3 c3 w3 hown3 hc3 hgrow3 hat3 hlt3; clear tok1; have HO3 := Lib.hid hown3; have HG3 := Lib.hid hgrow3; clear hown3; have hb3 := Below.grown (show Below w2.heap.size w2 _ from (by repeat (first | exact Below.refl _ _ | refine Below.drew ?_ | refine Below.alloc ?_ (by first | (simp; done) | (simp; omega) | omega) _))) hgrow3 (by first | (simp; done) | (simp; omega)) (fun k e => by have e2 := Option.some.inj e; omega); have HB3 := Lib.hid hb3; have hsz3 := hgrow3.size; (try simp at hsz3 hat3); have y0 := (hb3.cell (p := ⟨x, 0, none⟩) hx2).trans hK0.out; have y1 := (hb3.cell (p := ⟨w.heap.size, 0, none⟩) hnl2).trans f0; have y2 := (hb3.cell (p := ⟨w.heap.size, 1, none⟩) hnl2).trans f1; have y3 := (hb3.cell (p := ⟨w.heap.size, 2, none⟩) hnl2).trans f2; clear hb3; clear hgrow3)
      | (have _t := tok2; refine step_rfrow (by rfl) _ _ (by rfl) g3 _ c3 ([] ++ st.fs.take i) (by rfl) (by first | rfl | (simp; done) | (simp; omega)) (by repeat (first | (with_reducible exact HO3.out) | (with_reducible refine OwnFiles.drew ?_) | (with_reducible refine OwnFiles.alloc ?_ _))) (some ⟨_, 0, none⟩) 1 1 [⟨n.data.toList, a.data.toList, b.data.toList⟩] (by rfl) rfl (by first | (with_reducible refine files_one' _ _ ?_ n a b; (first | rfl | (simp; done) | (simp; omega))) | (with_reducible refine FilesAt.drew ?_; with_reducible refine files_one' _ _ ?_ n a b; (first | rfl | (simp; done) | (simp; omega))) | (refine files_kept2 ?_ HG3.out ?_; rotate_left; omega; with_reducible refine files_one' _ _ ?_ n a b; (first | rfl | (simp; done) | (simp; omega))) | (refine files_kept2 ?_ HG3.out ?_; rotate_left; omega; with_reducible refine FilesAt.drew ?_; with_reducible refine files_one' _ _ ?_ n a b; (first | rfl | (simp; done) | (simp; omega))) | (refine files_kept2 ?_ HG3.out ?_; rotate_left; omega; with_reducible refine FilesAt.drew ?_; with_reducible refine FilesAt.more ?_ _; with_reducible refine files_one' _ _ ?_ n a b; (first | rfl | (simp; done) | (simp; omega)))) (by rw [List.nil_append, List.length_take]; simp; omega) ?_; intro g4 c4 w4 hown4 hc4 hgrow4 hat4 hlt4; clear tok2; have HO4 := Lib.hid hown4; clear hown4; have hb4 := Below.grown (show Below w2.heap.size w2 _ from (by repeat (first | exact HB3.out | refine Below.drew ?_ | refine Below.alloc ?_ (by first | omega | (simp; omega)) _))) hgrow4 (by first | omega | (simp; omega)) (fun k e => by have e2 := Option.some.inj e; omega); have HB4 := Lib.hid hb4; have hsz4 := hgrow4.size; (try simp at hsz4 hat4); have y0 := (hb4.cell (p := ⟨x, 0, none⟩) hx2).trans hK0.out; have y1 := (hb4.cell (p := ⟨w.heap.size, 0, none⟩) hnl2).trans f0; have y2 := (hb4.cell (p := ⟨w.heap.size, 1, none⟩) hnl2).trans f1; have y3 := (hb4.cell (p := ⟨w.heap.size, 2, none⟩) hnl2).trans f2; clear hb4 hgrow4)
      | (have _t := tok3; refine step_rfrow (by rfl) _ _ (by rfl) g4 _ c4 (([] ++ st.fs.take i) ++ [⟨n.data.toList, a.data.toList, b.data.toList⟩]) (by rfl) (by first | rfl | (simp; done) | (simp; omega)) (by repeat (first | (with_reducible exact HO4.out) | (with_reducible refine OwnFiles.drew ?_) | (with_reducible refine OwnFiles.alloc ?_ _))) (some ⟨g2, 0, none⟩) _ c2 ([] ++ st.fs.drop (i + 1)) (by rfl) (by first | rfl | (simp; done) | (simp; omega)) (HS2.out _ (by repeat (first | exact HB4.out | refine Below.drew ?_ | refine Below.alloc ?_ (by first | omega | (simp; omega)) _))) (by simp; omega) ?_; intro g5 c5 w5 hown5 hc5 hgrow5 hat5 hlt5; clear tok3; (try simp at hat5); have HO5 := Lib.hid hown5; clear hown5; have hb5 := Below.grown (show Below w2.heap.size w2 _ from (by repeat (first | exact HB4.out | refine Below.drew ?_ | refine Below.alloc ?_ (by first | omega | (simp; omega)) _))) hgrow5 (by first | omega | (simp; omega)) (fun k e => by have e2 := Option.some.inj e; omega); have HB5 := Lib.hid hb5; have y0 := (hb5.cell (p := ⟨x, 0, none⟩) hx2).trans hK0.out; have y1 := (hb5.cell (p := ⟨w.heap.size, 0, none⟩) hnl2).trans f0; have y2 := (hb5.cell (p := ⟨w.heap.size, 1, none⟩) hnl2).trans f1; have y3 := (hb5.cell (p := ⟨w.heap.size, 2, none⟩) hnl2).trans f2; have z0 : w5.frozen? ⟨x, 0, none⟩ = false := (hb5.frozen (p := ⟨x, 0, none⟩) hx2).trans zf; clear hb5 hgrow5)
      | fail)
    all_goals
      go_wp2
      all_goals
        go_end0
        all_goals exact ⟨rfl, g5, c5, put_end (H2.out.pure HB5.out) HO5.out hc5 (by omega) HLL.out _ (by simp; omega) HOK.out, .inr (by have := B2.out.size; omega), (Fr.pure (S := fun k => k = x ∨ k = g) (B2.out.trans (HB5.out.mono B2.out.size))).setCell ⟨x, 0, none⟩ (fun _ => .inl rfl) _⟩
end Go.Proofs.YtppghhophaobdaaGreatDoor
