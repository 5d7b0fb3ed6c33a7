/- A row of steps that grows. -/
import Derived.Test.YtcdjckdbcffgdaaGreatDoorMAq
import Derived.Test.YtcdjckdbcffgdaaGreatDoorMAa
import Derived.Test.YtcdjckdbcffgdaaGreatDoorMAw
import Derived.Test.YtcdjckdbcffgdaaGreatDoorMAn
import Derived.Test.YtcdjckdbcffgdaaGreatDoorMCi
import Derived.Test.YtcdjckdbcffgdaaGreatDoorShelfC
namespace Go.Proofs.YtcdjckdbcffgdaaGreatDoor
open Go.RowKit

theorem own_below {w : World} {base n size y : Nat} {e : TypeId} {v : Value} {xs : List Value} (h : w.ownsRow base e size v n xs) (hy : v.ownBlock = some y) : y < w.heap.size := by
  obtain ⟨_, ⟨rfl, _⟩ | ⟨g, cp, cur, rfl, _, hb, _⟩⟩ := h
  · cases hy
  · have e2 := Option.some.inj hy
    simp at e2
    rw [← e2]; exact lt_of_block hb

theorem grown_fr {w w' : World} {row : Option Nat} (h : w.grownBy w' row) : Fr (fun k => row = some k) w w' := (Fr.refl _ _).grown h (fun _ _ e => e)

/-- A row of steps, each with what it does; its block is none of theirs. -/
structure RowOk (p b : Nat) (w : World) (base : Nat) (v : Value) (ss : Steps) (K : Nat → Prop) : Prop where
  own : OwnSteps w base v ss
  acts : ss.Do p b w K
  lt : ∀ k, K k → k < w.heap.size ∧ k ≠ p ∧ k ≠ b
  apart : ∀ k, K k → v.ownBlock ≠ some k
theorem RowOk.nil (p b : Nat) (w : World) (base : Nat) : RowOk p b w base (.slice none 0 0) [] (fun _ => False) := ⟨World.ownsRow_nil _ _ _ _, fun x hx => by simp at hx, fun _ h => h.elim, fun _ h => h.elim⟩
theorem RowOk.pure {p b : Nat} {w w' : World} {base : Nat} {v : Value} {ss : Steps} {K : Nat → Prop} (h : RowOk p b w base v ss K) (hb : Below w.heap.size w w') : RowOk p b w' base v ss K :=
  ⟨(Fr.pure (S := fun _ => False) hb).ownsRow h.own (fun _ _ h => h), h.acts.pure hb, fun k hk => ⟨Nat.lt_of_lt_of_le (h.lt k hk).1 hb.size, (h.lt k hk).2⟩, h.apart⟩
/-- More steps, appended. -/
theorem RowOk.more {p b : Nat} {w w' : World} {base : Nat} {v : Value} {ss l : Steps} {K K2 : Nat → Prop} (h : RowOk p b w base v ss K) (hl : l.Do p b w K2) (hk : ∀ k, K2 k → (k < w.heap.size ∧ k ≠ p ∧ k ≠ b) ∧ v.ownBlock ≠ some k) {g n cap : Nat}
    (hg : w.grownBy w' v.ownBlock) (hown : w'.ownsRow base 88 1 (.slice (some ⟨g, 0, none⟩) n cap) n (ss.cells ++ l.cells)) (hn : n = ss.length + l.length) (hat : v.ownBlock = some g ∨ g = w.heap.size) :
    RowOk p b w' base (.slice (some ⟨g, 0, none⟩) n cap) (ss ++ l) (fun k => K k ∨ K2 k) := by
  have hboth : ∀ k, (K k ∨ K2 k) → (k < w.heap.size ∧ k ≠ p ∧ k ≠ b) ∧ v.ownBlock ≠ some k := fun k hk' => hk'.elim (fun hk' => ⟨h.lt k hk', h.apart k hk'⟩) (hk k)
  have hs := hg.size
  have hlt : ∀ k, (K k ∨ K2 k) → k < w'.heap.size ∧ k ≠ p ∧ k ≠ b := fun k hk' => ⟨Nat.lt_of_lt_of_le (hboth k hk').1.1 hs, (hboth k hk').1.2⟩
  refine ⟨?_, ?_, hlt, ?_⟩
  · unfold OwnSteps
    rw [Steps.cells_append, List.length_append, ← hn]; exact hown
  · refine Steps.Do.append ((h.acts.keep hs fun k hk' => hg.block k (h.lt k hk').1 fun e => h.apart k hk' e.symm).wider (fun k hk' => .inl hk') hlt) ((hl.keep hs fun k hk' => hg.block k (hk k hk').1.1 fun e => (hk k hk').2 e.symm).wider (fun k hk' => .inr hk') hlt)
  · intro k hk' e
    have e2 : g = k := Option.some.inj e
    subst e2
    rcases hat with h8 | h8
    · exact (hboth _ hk').2 h8
    · have := (hboth _ hk').1.1; omega
end Go.Proofs.YtcdjckdbcffgdaaGreatDoor

/- A body behind its first statements. -/
namespace Go.Proofs.YtcdjckdbcffgdaaGreatDoor

/-- What is left of a body behind its first statements. -/
def dropS : Nat → Code → Code
  | n + 1, .seq _ b => dropS n b
  | _, c => c
end Go.Proofs.YtcdjckdbcffgdaaGreatDoor

/- A log, its disk, and the table that names are made by: what all acts of a log ask and leave. -/
namespace Go.Proofs.YtcdjckdbcffgdaaGreatDoor
open Go.RowKit

abbrev PW : Nat := 3
structure LgEnv (w : World) (F : Nat → Prop) (g p b : Nat) (st : DkSt) (l : LgSt) : Prop where
  lg : IsLg w F g p l
  dk : IsDk w p b st
  pow : Pow w
  ok : LgOk l
  far : ∀ k, F k → k ≠ p ∧ k ≠ b ∧ k ≠ PW
  pw : PW ≠ p ∧ PW ≠ b
/-- What an act leaves. -/
def LgLeft (w : World) (F : Nat → Prop) (g p b : Nat) (s : DkSt × LgSt) (w' : World) : Prop :=
  ∃ F', LgEnv w' F' g p b s.1 s.2 ∧ Fr (fun k => F k ∨ k = p ∨ k = b) w w' ∧ ∀ k, F' k → F k ∨ w.heap.size ≤ k

theorem pow_same {w W : World} (h : W.heap[PW]? = w.heap[PW]?) (hp : Pow w) : Pow W := by
  unfold Pow Lib.TabIs World.var? at hp ⊢
  rw [show Tryz.prog.globalNamed "internal/strconv.uint64pow10" = some 3 from by kernel_rfl] at hp ⊢
  simp only [Option.bind_some] at hp ⊢
  rw [h]; exact hp
theorem LgEnv.lt {w : World} {F : Nat → Prop} {g p b : Nat} {st : DkSt} {l : LgSt} (h : LgEnv w F g p b st l) : ∀ k, F k → k < w.heap.size := by
  obtain ⟨_, _, _, _, _, _, _, h3⟩ := h.lg
  exact h3
theorem LgEnv.pure {w w' : World} {F : Nat → Prop} {g p b : Nat} {st : DkSt} {l : LgSt} (h : LgEnv w F g p b st l) (hb : Below w.heap.size w w') : LgEnv w' F g p b st l :=
  ⟨h.lg.pure hb, h.dk.pure hb, below_pow hb h.pow, h.ok, h.far, h.pw⟩
theorem LgEnv.kept {w w' : World} {T F : Nat → Prop} {g p b : Nat} {st : DkSt} {l : LgSt} (h : LgEnv w F g p b st l) (hf : Fr T w w') (ht : ∀ k, T k → ¬ F k ∧ k ≠ p ∧ k ≠ b ∧ k ≠ PW) : LgEnv w' F g p b st l :=
  ⟨h.lg.kept hf fun k hk hT => (ht k hT).1 hk, h.dk.kept hf (fun hT => (ht _ hT).2.1 rfl) (fun hT => (ht _ hT).2.2.1 rfl), hf.pow h.pow (fun hT => (ht _ hT).2.2.2 rfl), h.ok, h.far, h.pw⟩
theorem LgEnv.stay {w w' : World} {F : Nat → Prop} {g p b : Nat} {st : DkSt} {l : LgSt} (h : LgEnv w F g p b st l) (hb : Below w.heap.size w w') : LgLeft w F g p b (st, l) w' :=
  ⟨F, h.pure hb, Fr.pure hb, fun _ hk => .inl hk⟩
/-- The disk alone is turned. -/
theorem LgEnv.disk {w w' : World} {F : Nat → Prop} {g p b : Nat} {st st' : DkSt} {l : LgSt} (h : LgEnv w F g p b st l) (hd : IsDk w' p b st') (hf : DFr p b w w') : LgEnv w' F g p b st' l :=
  ⟨h.lg.kept hf fun k hk hT => hT.elim (h.far k hk).1 (h.far k hk).2.1, hd, hf.pow h.pow (fun e => e.elim h.pw.1 h.pw.2), h.ok, h.far, h.pw⟩
theorem LgLeft.trans {w w1 w2 : World} {F : Nat → Prop} {g p b : Nat} {s1 s2 : DkSt × LgSt} {st : DkSt} {l : LgSt} (h0 : LgEnv w F g p b st l) (h : LgLeft w F g p b s1 w1) (k : ∀ F', LgEnv w1 F' g p b s1.1 s1.2 → LgLeft w1 F' g p b s2 w2) : LgLeft w F g p b s2 w2 := by
  obtain ⟨F1, e1, f1, n1⟩ := h
  obtain ⟨F2, e2, f2, n2⟩ := k F1 e1
  have hs := f1.size
  have hp := h0.dk.lt
  have hb := h0.dk.own.lt
  refine ⟨F2, e2, f1.then f2 ?_, ?_⟩
  · rintro i hi (hi2 | hi2)
    · rcases n1 i hi2 with h | h
      · exact .inl h
      · omega
    · exact .inr hi2
  · intro i hi
    rcases n2 i hi with h | h
    · exact n1 i h
    · exact .inr (by omega)

theorem hdF_ok {q : Nat} (h : q ≤ 1048576) : hdF (q : Int) = (segHead q, 0) := by
  have hn : numberB (q : Int) = true := by unfold numberB; simp; omega
  unfold hdF; rw [if_pos hn]; rfl
end Go.Proofs.YtcdjckdbcffgdaaGreatDoor

/- The steps of rotate. -/
namespace Go.Proofs.YtcdjckdbcffgdaaGreatDoor
open Go.RowKit

theorem ownsRow_same {w W : World} {base n size : Nat} {e : TypeId} {v : Value} {xs : List Value} (h : w.ownsRow base e size v n xs) (hs : ∀ k, v.ownBlock = some k → W.heap[k]? = w.heap[k]?) : W.ownsRow base e size v n xs := by
  obtain ⟨h1, h2 | ⟨g, c, cur, rfl, hg, hb, r⟩⟩ := h
  · exact ⟨h1, .inl h2⟩
  · exact ⟨h1, .inr ⟨g, c, cur, rfl, hg, (hs g rfl).trans hb, r⟩⟩
theorem lt_same {w W : World} {k : Nat} (h1 : k < w.heap.size) (h : W.heap[k]? = w.heap[k]?) : k < W.heap.size := by
  rw [Array.getElem?_eq_getElem h1] at h
  exact lt_of_block h
theorem IsLg.same {w W : World} {F : Nat → Prop} {g p : Nat} {l : LgSt} (h : IsLg w F g p l) (he : ∀ k, F k → W.heap[k]? = w.heap[k]?) : IsLg W F g p l := by
  obtain ⟨sv, iv, xs, S, h, h1, h2, h3⟩ := h
  have hS : ∀ k, S k → W.heap[k]? = w.heap[k]? := fun k hk => he k (h1 k hk)
  exact ⟨sv, iv, xs, S, ⟨(hS _ h.sg).trans h.cell, h.segs.same fun k hk => he k (h2 k hk), h.sfar, ownsRow_same h.row fun k hk => hS k (h.siv k hk), h.len,
    fun i hi hi' => ⟨(hS _ (h.sx _ (List.getElem_mem hi)).1).trans (h.ixs i hi hi').cell, ownsRow_same (h.ixs i hi hi').own fun k hk => hS k ((h.sx _ (List.getElem_mem hi)).2 k hk)⟩, h.sg, h.siv, h.sx, h.apart, fun k hk => lt_same (h.lt k hk) (hS k hk)⟩, h1, h2, fun k hk => lt_same (h3 k hk) (he k hk)⟩
theorem LgOk.name_len {l : LgSt} (h : LgOk l) : l.name.length = 20 := by
  have h0 := h.pos
  obtain ⟨a, f, e, h1, h2⟩ := may_nat h.may (l.segs.length - 1) (by omega)
  rw [name_eq h0, e]
  exact segName_len a f h1 h2
/-- The step that syncs the open segment: the log's own method. -/
theorem sync_step {w : World} {F : Nat → Prop} {g p b : Nat} {st0 : DkSt} {l : LgSt} (h : LgEnv w F g p b st0 l) : DkStep p b w (fun k => F k ∨ k = PW) (27, #[.pointer (some ⟨g, 0, none⟩)], #[]) (fun st => lgSync st l) :=
  ⟨enters_of Tryz.func27 (by kernel_rfl) rfl, fun k hk => by
    rcases hk with hk | rfl
    · exact ⟨h.lt k hk, (h.far k hk).1, (h.far k hk).2.1⟩
    · exact ⟨pow_lt h.pow, h.pw⟩,
  fun st W hd hf => by
    have key := lg_sync W (pow_same (hf _ (.inr rfl)) h.pow) F g p b st l (h.lg.same fun k hk => hf k (.inl hk)) hd h.ok.pos (by have := h.ok.few; omega) (by have := h.ok.name_len; omega)
    simpa using key⟩

set_option maxRecDepth 100000 in
set_option maxHeartbeats 1000000 in
theorem rot_act (w : World) (q c g p b : Nat) (st : DkSt) (G : Int) (sv : Value) (l : Segs) (hq : w.cell? ⟨q, 0, none⟩ = some (.pointer (some ⟨g, 0, none⟩))) (hg : w.cell? ⟨g, 0, none⟩ = some (.pointer (some ⟨p, 0, none⟩))) (h0 : w.cell? ⟨c, 0, none⟩ = some (.int .i64 G)) (h1 : w.cell? ⟨c, 1, none⟩ = some sv) (hs : SegsAt w sv l) (hl : l.length ≤ 1099511627776) (h : IsDk w p b st) (nq : q ≠ p ∧ q ≠ b) (ng : g ≠ p ∧ g ≠ b) (nc : c ≠ p ∧ c ≠ b) :
    Calls Tryz.prog 107 #[.pointer (some ⟨q, 0, none⟩), .pointer (some ⟨c, 0, none⟩)] w fun e w' => OpPost p b (dkSwap st G l) w e w' := by
  have H := Lib.hid h
  have HS := Lib.hid hs
  obtain ⟨a, cc, rfl⟩ := hs.shape
  clear hs h
  go_enter Tryz.func107, Tryz.ntmps107
  go_wp2_with fail
  go_region_held3 (fun w' => w'.cell? ⟨q, 0, none⟩ = some (.pointer (some ⟨g, 0, none⟩)) ∧ w'.cell? ⟨g, 0, none⟩ = some (.pointer (some ⟨p, 0, none⟩)) ∧ w'.cell? ⟨c, 0, none⟩ = some (.int .i64 G) ∧ w'.cell? ⟨c, 1, none⟩ = some (.slice a l.length cc)) (first | exact ⟨hq, hg, h0, h1⟩ | exact ⟨rq, rg, r0, r1⟩ | go_keep) (first
    | (go_at_call 46; refine (swap_any _ p b st (by first | exact H.out | exact H.out.drew) G _ l (by first | exact HS.out | exact HS.out.pure (Below.refl _ _).drew) hl).mono ?_; rintro e w1 ⟨rfl, hd, hf⟩; have HD := Lib.hid hd; have HF := Lib.hid hf; have rq := IsDk.ofD hf hq nq.1 nq.2; have rg := IsDk.ofD hf hg ng.1 ng.2; have r0 := IsDk.ofD hf h0 nc.1 nc.2; have r1 := IsDk.ofD hf h1 nc.1 nc.2; clear hd hf))
  go_wp2
  go_ret
  exact ⟨rfl, HD.out, (Fr.refl _ _).drew.trans HF.out⟩
theorem rot_step (w : World) (q c g p b : Nat) (G : Int) (sv : Value) (l : Segs) (hq : w.cell? ⟨q, 0, none⟩ = some (.pointer (some ⟨g, 0, none⟩))) (hg : w.cell? ⟨g, 0, none⟩ = some (.pointer (some ⟨p, 0, none⟩))) (h0 : w.cell? ⟨c, 0, none⟩ = some (.int .i64 G)) (h1 : w.cell? ⟨c, 1, none⟩ = some sv) (hs : SegsAt w sv l) (hl : l.length ≤ 1099511627776)
    (K : Nat → Prop) (hK : ∀ k, K k → k < w.heap.size ∧ k ≠ p ∧ k ≠ b) (kq : K q) (kg : K g) (kc : K c) (ksv : ∀ k, sv.ownBlock = some k → K k) :
    DkStep p b w K (107, #[], #[.pointer (some ⟨q, 0, none⟩), .pointer (some ⟨c, 0, none⟩)]) (fun st => dkSwap st G l) :=
  ⟨enters_of Tryz.func107 (by kernel_rfl) rfl, hK, fun st W hd hf => cap_call (rot_act W q c g p b st G sv l (cell_same (hf _ kq) hq) (cell_same (hf _ kg) hg) (cell_same (hf _ kc) h0) (cell_same (hf _ kc) h1) (hs.same fun k hk => hf k (ksv k hk)) hl hd (hK q kq).2 (hK g kg).2 (hK c kc).2)⟩
end Go.Proofs.YtcdjckdbcffgdaaGreatDoor

/- slices.Contains of own texts. -/
namespace Go.Proofs.YtcdjckdbcffgdaaGreatDoor
open Go.RowKit

theorem contains_any (w : World) (base : Nat) (v : Value) (l : List (List UInt8)) (h : OwnTexts w base v l) (x : ByteArray) (hl : l.length ≤ 1000000) :
    Calls Tryz.prog 40 #[v, .string x] w fun e w' => e = .returned (.bool (l.contains x.data.toList)) ∧ w' = w := by
  by_cases h0 : l.length = 0
  · have hn : l = [] := List.eq_nil_of_length_eq_zero h0
    subst hn
    obtain ⟨_, ⟨rfl, _⟩ | ⟨g, c, cur, rfl, _⟩⟩ := h
    · exact (Tryz.slices_Contains_string_empty none 0 x w).mono fun e w' h => h
    · exact (Tryz.slices_Contains_string_empty _ c x w).mono fun e w' h => h
  · obtain ⟨_, ⟨_, h1⟩ | ⟨g, c, cur, rfl, hg, hb, hc1, _, hc3, hc4⟩⟩ := h
    · omega
    · have key := Tryz.slices_Contains_string g 0 l.length c (l.map fun t => (⟨t.toArray⟩ : ByteArray)) x w (by simp) (by omega) (fun j hj => by
        rw [Nat.zero_add, cell_of_row _ _ _ _ _ _ hb]
        have hj' : j < l.length := by simpa using hj
        have hh : (cur.toList.take (l.length * 1))[j]? = (l.map encStr)[j]? := by rw [hc4]
        rw [List.getElem?_take_of_lt (by omega), List.getElem?_map, List.getElem?_eq_getElem hj'] at hh
        rw [List.getD_eq_getElem?_getD, List.getElem?_map, List.getElem?_eq_getElem hj']
        simpa [encStr] using hh)
      refine key.mono ?_
      rintro e w' ⟨rfl, rfl⟩
      refine ⟨ret_bool ?_, rfl⟩
      rw [Bool.eq_iff_iff, Lib.containsS_iff, List.take_of_length_le (by simp), List.contains_iff_mem, List.mem_map]
      constructor
      · rintro ⟨t, ht, e⟩
        rw [← e]; simpa using ht
      · intro ht
        exact ⟨_, ht, str_ext (by simp)⟩
end Go.Proofs.YtcdjckdbcffgdaaGreatDoor
