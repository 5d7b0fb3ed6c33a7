/- Plain: a manifest's bytes are read as that manifest; what is read as one are its bytes. -/
import Derived.Test.YtppghhophaobdaaGreatDoorRead
namespace Go.Proofs.YtppghhophaobdaaGreatDoor
open Go.RowKit

theorem val_append (a b : List UInt8) : val (a ++ b) = val a * 256 ^ b.length + val b := by
  induction b using List.rec generalizing a with
  | nil => simp [val]
  | cons x b ih =>
    have e : a ++ x :: b = (a ++ [x]) ++ b := by simp
    have e2 : val (x :: b) = x.toNat * 256 ^ b.length + val b := by
      have := ih [x]
      simp only [List.singleton_append] at this
      rw [this]; simp [val]
    rw [e, ih, val_snoc, e2, List.length_cons, Nat.pow_succ, Nat.add_mul, Nat.mul_assoc, Nat.mul_comm 256, Nat.add_assoc]

theorem val_be (k n : Nat) (h : n < 256 ^ k) : val (be k n) = n := by
  induction k generalizing n with
  | zero => simp at h; subst h; rfl
  | succ k ih =>
    simp only [be]
    rw [val_snoc, ih (n / 256) (by rw [Nat.pow_succ] at h; omega)]
    have : (UInt8.ofNat (n % 256)).toNat = n % 256 := by simp
    rw [this]; omega

theorem be_val (l : List UInt8) : be l.length (val l) = l := by
  suffices h : ∀ (n : Nat) (l : List UInt8), l.length = n → be n (val l) = l from h _ l rfl
  intro n
  induction n with
  | zero => intro l h; rw [List.eq_nil_of_length_eq_zero h]; rfl
  | succ n ih =>
    intro l h
    have hne : l ≠ [] := by intro e; subst e; simp at h
    have e := List.dropLast_concat_getLast hne
    generalize l.dropLast = a at e
    generalize l.getLast hne = x at e
    subst e
    have hx := x.toNat_lt
    simp only [be]
    rw [val_snoc, show (val a * 256 + x.toNat) / 256 = val a from by omega, ih a (by simpa using h), show (val a * 256 + x.toNat) % 256 = x.toNat from by omega]
    simp

theorem fixed_at {st : RdSt} {t rest : List UInt8} {k n : Nat} (he : st.e = 0) (ht : t.drop st.at_ = be k n ++ rest) (hn : n < 256 ^ k) :
    st.fixed t k = (n, ⟨st.at_ + k, 0, st.to⟩) ∧ t.drop (st.at_ + k) = rest := by
  have hl : k ≤ t.length - st.at_ := by
    have := congrArg List.length ht
    rw [List.length_drop, List.length_append, be_length] at this; omega
  constructor
  · unfold RdSt.fixed RdSt.take
    rw [if_neg (fun h => h he), if_neg (by omega), ht, he]
    simp only
    rw [List.take_left' (be_length k n), val_be k n hn]
  · rw [← List.drop_drop, ht, List.drop_left' (be_length k n)]

theorem i64_of {n : Nat} (h : n < 9223372036854775808) : i64 n = (n : Int) := by unfold i64 wrap64; omega

def Small (l : Segs) : Prop := ∀ i (h : i < l.length), 0 ≤ l[i].1 ∧ l[i].1 < 9223372036854775808 ∧ 0 ≤ l[i].2 ∧ l[i].2 < 9223372036854775808
theorem Small.tail {x : Int × Int} {l : Segs} (h : Small (x :: l)) : Small l := fun i hi => by
  have := h (i + 1) (by simpa using hi)
  simp only [List.getElem_cons_succ] at this
  exact this

theorem rdEnts_at {t : List UInt8} : ∀ {l : Segs} {st : RdSt} {rest : List UInt8}, st.e = 0 → Small l → t.drop st.at_ = l.flatMap entBytes ++ rest →
    rdEnts t l.length st = (l, ⟨st.at_ + 16 * l.length, 0, st.to⟩)
  | [], st, rest, he, _, _ => by
    obtain ⟨a, e, to⟩ := st
    simp only at he; subst he; rfl
  | (x, y) :: l, st, rest, he, hs, ht => by
    have h0 := hs 0 (by simp)
    simp only [List.getElem_cons_zero] at h0
    obtain ⟨hx0, hx1, hy0, hy1⟩ := h0
    obtain ⟨x, rfl⟩ := Int.eq_ofNat_of_zero_le hx0
    obtain ⟨y, rfl⟩ := Int.eq_ofNat_of_zero_le hy0
    have e1 : t.drop st.at_ = be 8 x ++ (be 8 y ++ (l.flatMap entBytes ++ rest)) := by rw [ht]; simp [entBytes, List.append_assoc]
    obtain ⟨f1, d1⟩ := fixed_at he e1 (by omega)
    obtain ⟨f2, d2⟩ := fixed_at (st := ⟨st.at_ + 8, 0, st.to⟩) rfl d1 (by omega)
    have ih := rdEnts_at (t := t) (l := l) (st := ⟨st.at_ + 8 + 8, 0, st.to⟩) rfl hs.tail d2
    simp only [List.length_cons, rdEnts]
    rw [f1]; simp only
    rw [f2]; simp only
    rw [ih, i64_of (by omega), i64_of (by omega)]
    simp only [Prod.mk.injEq, RdSt.mk.injEq, true_and, and_true]
    omega

theorem small_of_may {g : Int} {l : Segs} (h : mayB g l = true) : Small l := fun i hi => by
  obtain ⟨h1, h2, _, _, h5⟩ := mayB_all h
  have := h5 i hi
  omega

/-- Bytes that were made are read as what they were made of. -/
theorem parse_make {g : Int} {l : Segs} (h : mayB g l = true) : parseMan (manBytes g l) = some (g, l) := by
  obtain ⟨h1, h2, h3, h4, h5⟩ := mayB_all h
  obtain ⟨G, rfl⟩ := Int.eq_ofNat_of_zero_le h1
  have hlen : (manBytes (G : Int) l).length = 14 + 16 * l.length := by
    unfold manBytes; simp only [List.length_append, be_length, entBytes_length]; simp [man1]
  have e0 : st0.take (manBytes (G : Int) l) 4 = (man1, true, ⟨4, 0, 0⟩) := by
    unfold RdSt.take
    rw [if_neg (by simp [st0]), if_neg (by rw [hlen]; simp only [st0]; omega)]
    simp [st0, manBytes, man1]
  have d0 : (manBytes (G : Int) l).drop 4 = be 8 G ++ (be 2 l.length ++ (l.flatMap entBytes ++ [])) := by simp [manBytes, man1, List.append_assoc]
  obtain ⟨f1, d1⟩ := fixed_at (st := ⟨4, 0, 0⟩) rfl d0 (by omega)
  obtain ⟨f2, d2⟩ := fixed_at (st := ⟨4 + 8, 0, 0⟩) rfl d1 (by omega)
  have r := rdEnts_at (t := manBytes (G : Int) l) (l := l) (st := ⟨4 + 8 + 2, 0, 0⟩) rfl (small_of_may h) d2
  have hall := rdAll_eq (t := manBytes (G : Int) l) (by rw [e0]) f1 f2 (by rw [r]) (by rw [r])
  rw [i64_of (by omega)] at hall
  exact parse_some (by rw [e0]) hall (by unfold RdSt.ended; rw [if_neg (by rw [hlen]; simp)]) h

/-- Where a read of bytes went well, these were the bytes. -/
theorem fixed_back {st st' : RdSt} {t : List UInt8} {k n : Nat} (h : st.fixed t k = (n, st')) (he : st'.e = 0) :
    st.e = 0 ∧ st'.at_ = st.at_ + k ∧ t.drop st.at_ = be k n ++ t.drop (st.at_ + k) ∧ n < 256 ^ k := by
  unfold RdSt.fixed at h
  simp only [Prod.mk.injEq] at h
  obtain ⟨h1, h2⟩ := h
  unfold RdSt.take at h1 h2
  split at h2
  · rename_i hne; simp only at h2; subst h2; exact absurd he hne
  · rename_i hne
    have hne : st.e = 0 := Classical.not_not.1 hne
    split at h2
    · simp only at h2; subst h2; exact absurd he (by simp)
    · rename_i hlt
      simp only at h2
      rw [if_neg (fun hx => hx hne), if_neg hlt] at h1
      simp only at h1
      have hl : ((t.drop st.at_).take k).length = k := by rw [List.length_take, List.length_drop]; omega
      refine ⟨hne, by rw [← h2], ?_, ?_⟩
      · have := be_val ((t.drop st.at_).take k)
        rw [hl, h1] at this
        rw [this, ← List.drop_drop, List.take_append_drop]
      · rw [← h1]; have := val_lt ((t.drop st.at_).take k); rwa [hl] at this

theorem i64_back {n : Nat} (hn : n < 18446744073709551616) (h : 0 ≤ i64 n) : (i64 n).toNat = n := by unfold i64 wrap64 at *; omega

theorem rdEnts_back {t : List UInt8} : ∀ {n : Nat} {st : RdSt}, (rdEnts t n st).2.e = 0 → Small (rdEnts t n st).1 →
    st.e = 0 ∧ (rdEnts t n st).2.at_ = st.at_ + 16 * n ∧ t.drop st.at_ = (rdEnts t n st).1.flatMap entBytes ++ t.drop (st.at_ + 16 * n)
  | 0, st, he, _ => ⟨he, by simp [rdEnts], by simp [rdEnts]⟩
  | n + 1, st, he, hs => by
    simp only [rdEnts] at he hs ⊢
    obtain ⟨a, sa, h1⟩ : ∃ a sa, st.fixed t 8 = (a, sa) := ⟨_, _, rfl⟩
    rw [h1] at he hs ⊢
    simp only at he hs ⊢
    obtain ⟨b, sb, h2⟩ : ∃ b sb, sa.fixed t 8 = (b, sb) := ⟨_, _, rfl⟩
    rw [h2] at he hs ⊢
    simp only at he hs ⊢
    obtain ⟨e3, at3, d3⟩ := rdEnts_back (t := t) he hs.tail
    obtain ⟨e2, at2, d2, n2⟩ := fixed_back h2 e3
    obtain ⟨e1, at1, d1, n1⟩ := fixed_back h1 e2
    have h0 := hs 0 (by simp)
    simp only [List.getElem_cons_zero] at h0
    refine ⟨e1, by rw [at3, at2, at1]; omega, ?_⟩
    rw [d1, ← at1, d2, ← at2, d3, List.flatMap_cons]
    unfold entBytes
    simp only
    rw [i64_back (by omega) h0.1, i64_back (by omega) h0.2.2.1, at2, at1]
    simp only [List.append_assoc]
    congr 4
    omega

/-- What is read of bytes that were sealed, made again, are the bytes. -/
theorem make_parse {t : List UInt8} {g : Int} {l : Segs} (h : parseMan t = some (g, l)) : mayB g l = true ∧ manBytes g l = t := by
  unfold parseMan at h
  split at h
  · cases h
  rename_i h4
  have h4 : (st0.take t 4).1 = man1 := Classical.not_not.1 h4
  split at h
  · cases h
  rename_i hb
  simp only [not_or, Classical.not_not, Option.some.injEq, Prod.mk.injEq, Bool.not_eq_false] at hb h
  obtain ⟨hend, hmay⟩ := hb
  obtain ⟨a, sa, h1⟩ : ∃ a sa, (st0.take t 4).2.2.fixed t 8 = (a, sa) := ⟨_, _, rfl⟩
  obtain ⟨n, sb, h2⟩ : ∃ n sb, sa.fixed t 2 = (n, sb) := ⟨_, _, rfl⟩
  have hall : rdAll t = (i64 a, (rdEnts t n sb).1, (rdEnts t n sb).2) := rdAll_eq rfl h1 h2 rfl rfl
  rw [hall] at hend hmay h
  simp only at hend hmay h
  obtain ⟨hg, hl⟩ := h
  have he : (rdEnts t n sb).2.e = 0 ∧ ¬ (rdEnts t n sb).2.at_ < t.length := by
    unfold RdSt.ended at hend
    split at hend
    · cases hend
    · rename_i hx; exact ⟨hend, fun hlt => hx ⟨hend, hlt⟩⟩
  obtain ⟨m1, m2, m3, m4, m5⟩ := mayB_all hmay
  obtain ⟨e3, at3, d3⟩ := rdEnts_back (t := t) he.1 (small_of_may hmay)
  obtain ⟨e2, at2, d2, n2⟩ := fixed_back h2 e3
  obtain ⟨e1, at1, d1, n1⟩ := fixed_back h1 e2
  have htake : 4 ≤ t.length ∧ (st0.take t 4).2.2 = ⟨4, 0, 0⟩ ∧ t.take 4 = man1 := by
    unfold RdSt.take at h4 e1 ⊢
    rw [if_neg (by simp [st0])] at h4 e1 ⊢
    by_cases hl : t.length - st0.at_ < 4
    · rw [if_pos hl] at e1; simp at e1
    · rw [if_neg hl] at h4 e1 ⊢
      simp only [st0, List.drop_zero] at h4 hl ⊢
      exact ⟨by omega, by simp, h4⟩
  obtain ⟨ht4, hst, hman⟩ := htake
  rw [hst] at d1 at1
  simp only at d1 at1
  have hlen : (rdEnts t n sb).1.length = n := rdEnts_length t n sb
  rw [← hg, ← hl]
  refine ⟨hmay, ?_⟩
  unfold manBytes
  rw [i64_back (by omega) m1, hlen]
  have hdrop : t.drop (sb.at_ + 16 * n) = [] := List.drop_eq_nil_of_le (by rw [← at3]; omega)
  rw [hdrop, List.append_nil] at d3
  have : t = man1 ++ t.drop 4 := by rw [← hman, List.take_append_drop]
  conv => rhs; rw [this, d1, ← at1, d2, ← at2, d3]
  simp only [List.append_assoc]

end Go.Proofs.YtppghhophaobdaaGreatDoor
