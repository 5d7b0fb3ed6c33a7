/- The walk of souklaw14's works. -/
import Derived.Test.YtcdjckdbcffgdaaGreatDoorMCf
import Derived.Test.YtcdjckdbcffgdaaGreatDoorMAn
import Derived.Test.YtcdjckdbcffgdaaGreatDoorMAo
import Derived.Test.YtcdjckdbcffgdaaGreatDoorMkPyG
import Derived.Test.YtcdjckdbcffgdaaGreatDoorMBc
import Derived.Test.YtcdjckdbcffgdaaGreatDoorMkIn3
import Derived.Test.YtcdjckdbcffgdaaGreatDoorMkNil
namespace Go.Proofs.YtcdjckdbcffgdaaGreatDoor
open Go.RowKit Go.Maps Go.Sort

theorem lg_append (w : World) (F : Nat → Prop) (g p b : Nat) (st : DkSt) (l : LgSt) (h0 : LgEnv w F g p b st l) (x : ByteArray) (hx : x.size ≤ 140737488355328) :
    Calls Tryz.prog 14 #[.pointer (some ⟨g, 0, none⟩), .string x] w fun e w' => AppPost w F g p b l.next (lgAppend st l x.data.toList) e w' := by
  by_cases hbad : x.size = 0 ∨ 4096 < x.size ∨ 1048576 ≤ l.next
  · exact append_bad w F g p b st l h0 x hx hbad
  · exact append_good w F g p b st l h0 x (by omega) (by omega) (by omega)

theorem textsIn_row {w : World} {g : Nat} {t : TypeId} (xs : List ByteArray) (h : w.heap[g]? = some (.cells (xs.map Value.string).toArray t (0, 0))) : TextsIn w g (xs.map (·.data.toList)) := fun i hi => by
  have hi : i < xs.length := by simpa using hi
  refine ⟨xs[i], by simp, ?_⟩
  rw [cell_of_row _ _ _ _ _ _ h]
  simp [hi]
theorem numsIn_row {w : World} {g : Nat} {t : TypeId} (ms : List Nat) (h : w.heap[g]? = some (.cells (ms.map fun (n : Nat) => Value.int .i64 (n : Int)).toArray t (0, 0))) : NumsIn w g ms := fun i hi => by
  rw [cell_of_row _ _ _ _ _ _ h]
  simp [hi]

/-- A log, its disk, and all that they consist of, behind a world's blocks. -/
structure Fresh (w0 w : World) (F : Nat → Prop) (g p b : Nat) (st : DkSt) (l : LgSt) : Prop where
  env : LgEnv w F g p b st l
  far : ∀ k, F k → w0.heap.size ≤ k
  fp : w0.heap.size ≤ p
  fb : w0.heap.size ≤ b
  below : Below w0.heap.size w0 w
theorem Fresh.pure {w0 w w' : World} {F : Nat → Prop} {g p b : Nat} {st : DkSt} {l : LgSt} (h : Fresh w0 w F g p b st l) (hb : Below w.heap.size w w') : Fresh w0 w' F g p b st l :=
  ⟨h.env.pure hb, h.far, h.fp, h.fb, h.below.trans (hb.mono h.below.size)⟩
theorem Fresh.left {w0 w w' : World} {F : Nat → Prop} {g p b : Nat} {st : DkSt} {l : LgSt} (h : Fresh w0 w F g p b st l) {s : DkSt × LgSt} (hl : LgLeft w F g p b s w') : ∃ F', Fresh w0 w' F' g p b s.1 s.2 := by
  obtain ⟨F', h1, h2, h3⟩ := hl
  refine ⟨F', h1, fun k hk => ?_, h.fp, h.fb, h.below.trans (h2.below h.below.size fun k hk e => ?_)⟩
  · rcases h3 k hk with e | e
    · exact h.far k e
    · exact Nat.le_trans h.below.size e
  · rcases e with e | rfl | rfl
    · have := h.far k e; omega
    · have := h.fp; omega
    · have := h.fb; omega
theorem Fresh.init {w0 w w' : World} (hp : Pow w0) {p b : Nat} {st st' : DkSt} {l : LgSt} {e : Ending} {c : Int} (hb : Below w0.heap.size w0 w) (hd : IsDk w p b st) (fp : w0.heap.size ≤ p) (fb : w0.heap.size ≤ b) (hk : LgOk l) (h : InitPost p b (st', c, some l) w e w') :
    ∃ g F, e = .returned (.tuple #[.pointer (some ⟨g, 0, none⟩), .int .i64 c]) ∧ Fresh w0 w' F g p b st' l := by
  obtain ⟨h1, h2, g, F, h3, h4, h5⟩ := h
  have hw : PW < w0.heap.size := pow_lt hp
  have hpl := hd.lt
  have hbl := hd.own.lt
  have hs := hb.size
  have hb2 : Below w0.heap.size w0 w' := hb.trans (h2.below (B := w0.heap.size) hs fun k hk e => by
    rcases e with e | e
    · rw [e] at hk; omega
    · rw [e] at hk; omega)
  refine ⟨g, F, h5, ⟨h3, h1, below_pow hb2 hp, hk, fun k hk => ?_, by omega⟩, fun k hk => Nat.le_trans hs (h4 k hk), fp, fb, hb2⟩
  have := h4 k hk
  omega

theorem ex_load : dkLoad 1000 [] = (some exD0, 0) := by rfl
theorem exD1_eq : exD1 = { exD0 with fs := newFs 0 } := by
  rcases init_on (st := exD0) ⟨rfl, rfl⟩ rfl (c := exCfg) (by decide) (q := 0) (by decide) with e | e
  · exact congrArg Prod.fst e
  · exact absurd ((congrArg (fun r => r.2.1) e).symm.trans ex_init.1) (by decide)
theorem ex_init2 : lgInit exD0 0 exCfg = (exD1, 0, some exL1) := by
  rcases init_on (st := exD0) ⟨rfl, rfl⟩ rfl (c := exCfg) (by decide) (q := 0) (by decide) with e | e
  · rw [exD1_eq]; exact e
  · exact absurd ((congrArg (fun r => r.2.1) e).symm.trans ex_init.1) (by decide)
theorem exL1_ok : LgOk exL1 := newL_ok (c := exCfg) (by decide) (q := 0) (by decide)
theorem ex_on : On exD1 ∧ LgOn exD1 exL1 := by
  rw [exD1_eq]; exact ⟨⟨rfl, rfl⟩, newFs_on (st := exD0) exCfg (by decide)⟩
/-- Behind an append that is OK. -/
theorem app_keep {st : DkSt} {l : LgSt} (p : List UInt8) (hon : On st) (ha : Apart st.fs) (hk : LgOk l) (ho : LgOn st l) (h : (lgAppend st l p).2 = 0) :
    On (lgAppend st l p).1.1 ∧ LgOn (lgAppend st l p).1.1 (lgAppend st l p).1.2 ∧ (lgAppend st l p).1.2.next = l.next + 1 ∧ (lgAppend st l p).1.2.all = l.all ++ [p] ∧ (lgAppend st l p).1.2.first = l.first := by
  rcases app_on p hon ha hk ho with ⟨fs', l', e, h1, h2, h3, h4, h5, _⟩ | ⟨c, h1, e, _⟩
  · rw [e]; exact ⟨⟨hon.lit, hon.free⟩, h2, h3, h4, h5⟩
  · rw [e] at h; exact absurd h h1
end Go.Proofs.YtcdjckdbcffgdaaGreatDoor
