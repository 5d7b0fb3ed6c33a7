/- Plain facts on the checksum of 32 bits: steps, bytes, sealed texts, and what a burst of at most 32 bits does to one. No program. -/
namespace Go.Proofs.YteikdcobpfohcaaGreatDoor.Crc

def poly : BitVec 32 := 0xEDB88320#32

/-- One step down. -/
def step (c : BitVec 32) : BitVec 32 := if c.getLsbD 0 then (c >>> 1) ^^^ poly else c >>> 1

theorem step_xor (a b : BitVec 32) : step (a ^^^ b) = step a ^^^ step b := by
  unfold step
  rw [BitVec.getLsbD_xor, BitVec.ushiftRight_xor_distrib]
  cases ha : a.getLsbD 0 <;> cases hb : b.getLsbD 0 <;> simp
  · ac_rfl
  · ac_rfl
  · have : poly ^^^ poly = 0#32 := by decide
    have h2 : a >>> 1 ^^^ poly ^^^ (b >>> 1 ^^^ poly) = a >>> 1 ^^^ b >>> 1 ^^^ (poly ^^^ poly) := by ac_rfl
    rw [h2, this]; simp

theorem step_zero : step 0#32 = 0#32 := by decide

/-- The highest bit tells whether the polynomial was combined: so a step can be undone. -/
theorem step_eq_zero {a : BitVec 32} (h : step a = 0#32) : a = 0#32 := by
  have h31 : (step a).getLsbD 31 = false := by rw [h]; simp
  unfold step at h h31
  split at h
  · rename_i h0
    rw [if_pos h0] at h31
    simp [poly] at h31
  · rename_i h0
    apply BitVec.eq_of_getLsbD_eq
    intro i hi
    rcases i with _ | i
    · simpa using h0
    · have := congrArg (fun x => x.getLsbD i) h
      simp only [BitVec.getLsbD_ushiftRight, BitVec.getLsbD_zero] at this
      rw [show 1 + i = i + 1 from by omega] at this
      simpa using this

theorem step_inj {a b : BitVec 32} (h : step a = step b) : a = b := by
  have h0 : step (a ^^^ b) = 0#32 := by rw [step_xor, h, BitVec.xor_self]
  have := step_eq_zero h0
  calc a = a ^^^ (b ^^^ b) := by simp
    _ = (a ^^^ b) ^^^ b := by ac_rfl
    _ = b := by rw [this]; simp

def steps : Nat → BitVec 32 → BitVec 32
  | 0, c => c
  | n + 1, c => steps n (step c)

theorem steps_add (m n : Nat) (c : BitVec 32) : steps (m + n) c = steps n (steps m c) := by
  induction m generalizing c with
  | zero => simp [steps]
  | succ m ih => rw [show m + 1 + n = (m + n) + 1 from by omega]; simp only [steps]; exact ih _
theorem steps_xor (n : Nat) (a b : BitVec 32) : steps n (a ^^^ b) = steps n a ^^^ steps n b := by
  induction n generalizing a b with
  | zero => rfl
  | succ n ih => simp only [steps]; rw [step_xor, ih]
theorem steps_zero (n : Nat) : steps n 0#32 = 0#32 := by
  induction n with
  | zero => rfl
  | succ n ih => simp only [steps]; rw [step_zero, ih]
theorem steps_inj (n : Nat) {a b : BitVec 32} (h : steps n a = steps n b) : a = b := by
  induction n generalizing a b with
  | zero => exact h
  | succ n ih => exact step_inj (ih h)
theorem steps_succ' (n : Nat) (c : BitVec 32) : steps (n + 1) c = step (steps n c) := by
  rw [steps_add n 1 c]; rfl

/-- Shifting down numbers whose low bits are 0 combines nothing. -/
theorem steps_low (n : Nat) (c : BitVec 32) (h : ∀ i, i < n → c.getLsbD i = false) : steps n c = c >>> n := by
  induction n generalizing c with
  | zero => simp [steps]
  | succ n ih =>
    have h0 := h 0 (by omega)
    have e : step c = c >>> 1 := by unfold step; rw [if_neg (by rw [h0]; simp)]
    simp only [steps]
    rw [e, ih (c >>> 1) (fun i hi => by rw [BitVec.getLsbD_ushiftRight]; exact h (1 + i) (by omega))]
    apply BitVec.eq_of_getLsbD_eq
    intro i hi
    simp only [BitVec.getLsbD_ushiftRight]
    congr 1; omega

/-- What the table has at a number. -/
def tab (b : BitVec 8) : BitVec 32 := steps 8 (b.zeroExtend 32)

/-- A byte, by the table. -/
def over (c : BitVec 32) (b : BitVec 8) : BitVec 32 := tab (c.truncate 8 ^^^ b) ^^^ (c >>> 8)

theorem over_eq (c : BitVec 32) (b : BitVec 8) : over c b = steps 8 (c ^^^ b.zeroExtend 32) := by
  have hs : c ^^^ b.zeroExtend 32 = (c.truncate 8 ^^^ b).zeroExtend 32 ^^^ ((c >>> 8) <<< 8) := by
    apply BitVec.eq_of_getLsbD_eq
    intro i hi
    simp only [BitVec.getLsbD_xor, BitVec.getLsbD_setWidth, BitVec.getLsbD_shiftLeft, BitVec.getLsbD_ushiftRight, BitVec.truncate_eq_setWidth]
    by_cases h8 : i < 8
    · simp [h8, hi]
    · have : b.getLsbD i = false := BitVec.getLsbD_of_ge _ _ (by omega)
      simp [h8, hi, this, show 8 + (i - 8) = i from by omega]
  rw [hs, steps_xor]
  rw [steps_low 8 ((c >>> 8) <<< 8) (fun i hi => by simp [hi])]
  unfold over tab
  congr 1
  apply BitVec.eq_of_getLsbD_eq
  intro i hi
  simp only [BitVec.getLsbD_shiftLeft, BitVec.getLsbD_ushiftRight]
  by_cases h : 8 + i < 32
  · have h1 : ¬ (8 + i < 8) := by omega
    simp [h, h1]
  · have : c.getLsbD (8 + i) = false := BitVec.getLsbD_of_ge _ _ (by omega)
    simp [this]

def bv (b : UInt8) : BitVec 8 := b.toBitVec

/-- Over bytes. -/
def run (c : BitVec 32) (s : List UInt8) : BitVec 32 := s.foldl (fun c b => over c (bv b)) c

theorem run_nil (c : BitVec 32) : run c [] = c := rfl
theorem run_cons (c : BitVec 32) (b : UInt8) (s : List UInt8) : run c (b :: s) = run (over c (bv b)) s := rfl
theorem run_append (c : BitVec 32) (s t : List UInt8) : run c (s ++ t) = run (run c s) t := by simp [run]
theorem run_snoc (c : BitVec 32) (s : List UInt8) (b : UInt8) : run c (s ++ [b]) = over (run c s) (bv b) := by simp [run]

theorem over_xor (c d : BitVec 32) (a b : BitVec 8) : over (c ^^^ d) (a ^^^ b) = over c a ^^^ over d b := by
  rw [over_eq, over_eq, over_eq, ← steps_xor]
  congr 1
  have : (a ^^^ b).zeroExtend 32 = a.zeroExtend 32 ^^^ b.zeroExtend 32 := by
    apply BitVec.eq_of_getLsbD_eq; intro i hi; simp [hi]
  rw [this]; ac_rfl

/-- The bytes of a checksum, the lowest first. -/
def four (c : BitVec 32) : List UInt8 := [UInt8.ofBitVec (c.truncate 8), UInt8.ofBitVec ((c >>> 8).truncate 8), UInt8.ofBitVec ((c >>> 16).truncate 8), UInt8.ofBitVec ((c >>> 24).truncate 8)]
theorem four_length (c : BitVec 32) : (four c).length = 4 := rfl

theorem parts (d : BitVec 32) : d = (d.truncate 8).zeroExtend 32 ^^^ ((d >>> 8) <<< 8) := by
  apply BitVec.eq_of_getLsbD_eq
  intro i hi
  simp only [BitVec.getLsbD_xor, BitVec.getLsbD_setWidth, BitVec.getLsbD_shiftLeft, BitVec.getLsbD_ushiftRight, BitVec.truncate_eq_setWidth]
  by_cases h8 : i < 8
  · simp [h8, hi]
  · simp [h8, hi, show 8 + (i - 8) = i from by omega]

theorem steps8_high (d : BitVec 32) : steps 8 ((d >>> 8) <<< 8) = d >>> 8 := by
  rw [steps_low 8 ((d >>> 8) <<< 8) (fun i hi => by simp [hi])]
  apply BitVec.eq_of_getLsbD_eq
  intro i hi
  simp only [BitVec.getLsbD_shiftLeft, BitVec.getLsbD_ushiftRight]
  by_cases h : 8 + i < 32
  · have h1 : ¬ (8 + i < 8) := by omega
    simp [h, h1]
  · have : d.getLsbD (8 + i) = false := BitVec.getLsbD_of_ge _ _ (by omega)
    simp [this]

theorem steps8_parts (x d : BitVec 32) : steps 8 (x ^^^ d) = over x (d.truncate 8) ^^^ (d >>> 8) := by
  have h : x ^^^ d = (x ^^^ (d.truncate 8).zeroExtend 32) ^^^ ((d >>> 8) <<< 8) := by
    rw [BitVec.xor_assoc]; congr 1; exact parts d
  rw [h, steps_xor, steps8_high, over_eq]

/-- Four bytes at once. -/
theorem run_four (c d : BitVec 32) : run c (four d) = steps 32 (c ^^^ d) := by
  have e : run c (four d) = over (over (over (over c (d.truncate 8)) ((d >>> 8).truncate 8)) ((d >>> 16).truncate 8)) ((d >>> 24).truncate 8) := rfl
  have s16 : d >>> 16 = d >>> 8 >>> 8 := by rw [← BitVec.shiftRight_add]
  have s24 : d >>> 24 = d >>> 8 >>> 8 >>> 8 := by rw [← BitVec.shiftRight_add, ← BitVec.shiftRight_add]
  have s32 : d >>> 8 >>> 8 >>> 8 >>> 8 = 0#32 := by
    rw [← BitVec.shiftRight_add, ← BitVec.shiftRight_add, ← BitVec.shiftRight_add]
    apply BitVec.eq_of_getLsbD_eq; intro i hi
    simp only [BitVec.getLsbD_ushiftRight, BitVec.getLsbD_zero]
    exact BitVec.getLsbD_of_ge _ _ (by omega)
  have e32 : steps 32 (c ^^^ d) = steps (8 + (8 + (8 + 8))) (c ^^^ d) := rfl
  rw [e, e32, steps_add, steps_add, steps_add, steps8_parts, steps8_parts, steps8_parts, steps8_parts, s16, s24, s32]
  simp

def of (s : List UInt8) : BitVec 32 := ~~~ run (~~~ 0#32) s
def add (x : BitVec 32) (s : List UInt8) : BitVec 32 := ~~~ run (~~~ x) s
theorem add_zero (s : List UInt8) : add 0#32 s = of s := rfl
def seal_ (s : List UInt8) : List UInt8 := s ++ four (of s)
theorem seal_length (s : List UInt8) : (seal_ s).length = s.length + 4 := by simp [seal_, four_length]

theorem ones : ~~~ 0#32 = BitVec.allOnes 32 := by decide
theorem xor_not (r : BitVec 32) : r ^^^ ~~~ r = ~~~ 0#32 := by
  rw [ones, ← BitVec.xor_allOnes, ← BitVec.xor_assoc, BitVec.xor_self, BitVec.zero_xor]

theorem run_seal (s : List UInt8) : run (~~~ 0#32) (seal_ s) = steps 32 (~~~ 0#32) := by
  unfold seal_ of
  rw [run_append, run_four, xor_not]

/-- Any four bytes are a number's. -/
theorem four_of (q : List UInt8) (h : q.length = 4) : ∃ d, q = four d := by
  match q, h with
  | [a, b, c, e], _ =>
    refine ⟨(a.toBitVec).zeroExtend 32 ||| ((b.toBitVec).zeroExtend 32 <<< 8) ||| ((c.toBitVec).zeroExtend 32 <<< 16) ||| ((e.toBitVec).zeroExtend 32 <<< 24), ?_⟩
    have bit : ∀ (x : UInt8) (y : BitVec 8), (∀ i, i < 8 → x.toBitVec.getLsbD i = y.getLsbD i) → x = UInt8.ofBitVec y := by
      intro x y hxy
      have : x.toBitVec = y := BitVec.eq_of_getLsbD_eq (fun i hi => hxy i hi)
      rw [← this]
    have hz : ∀ (x : UInt8) i, 8 ≤ i → x.toBitVec.getLsbD i = false := fun x i hi => BitVec.getLsbD_of_ge _ _ hi
    unfold four
    congr 1
    · apply bit; intro i hi
      simp only [BitVec.truncate_eq_setWidth, BitVec.getLsbD_setWidth, BitVec.getLsbD_or, BitVec.getLsbD_shiftLeft]
      simp [hi, show i < 32 from by omega, show i < 16 from by omega, show i < 24 from by omega]
    congr 1
    · apply bit; intro i hi
      simp only [BitVec.truncate_eq_setWidth, BitVec.getLsbD_setWidth, BitVec.getLsbD_or, BitVec.getLsbD_shiftLeft, BitVec.getLsbD_ushiftRight]
      simp [hi, show i < 32 from by omega, show 8 + i < 32 from by omega, show 8 + i < 16 from by omega, show 8 + i < 24 from by omega]
    congr 1
    · apply bit; intro i hi
      simp only [BitVec.truncate_eq_setWidth, BitVec.getLsbD_setWidth, BitVec.getLsbD_or, BitVec.getLsbD_shiftLeft, BitVec.getLsbD_ushiftRight]
      simp [hi, show i < 32 from by omega, show 16 + i < 32 from by omega, show ¬ (16 + i < 8) from by omega, show 16 + i < 24 from by omega, hz a (16 + i) (by omega), hz b (16 + i - 8) (by omega)]
    congr 1
    · apply bit; intro i hi
      simp only [BitVec.truncate_eq_setWidth, BitVec.getLsbD_setWidth, BitVec.getLsbD_or, BitVec.getLsbD_shiftLeft, BitVec.getLsbD_ushiftRight]
      simp [hi, show i < 32 from by omega, show 24 + i < 32 from by omega, show ¬ (24 + i < 8) from by omega, show ¬ (24 + i < 16) from by omega, hz a (24 + i) (by omega), hz b (24 + i - 8) (by omega), hz c (24 + i - 16) (by omega)]

/-- Bytes are a sealed text just if the checksum over all of them is that number. -/
theorem sealed_iff (b : List UInt8) (h : 4 ≤ b.length) : seal_ (b.take (b.length - 4)) = b ↔ run (~~~ 0#32) b = steps 32 (~~~ 0#32) := by
  constructor
  · intro e; rw [← e]; exact run_seal _
  · intro e
    obtain ⟨d, hd⟩ := four_of (b.drop (b.length - 4)) (by simp; omega)
    have hb : b = b.take (b.length - 4) ++ four d := by rw [← hd, List.take_append_drop]
    generalize b.take (b.length - 4) = t at hb ⊢
    subst hb
    rw [run_append, run_four] at e
    have e2 := steps_inj 32 e
    have e3 : d = of t := by
      unfold of
      have : run (~~~ 0#32) t ^^^ (run (~~~ 0#32) t ^^^ d) = run (~~~ 0#32) t ^^^ ~~~ 0#32 := by rw [e2]
      rw [← BitVec.xor_assoc, BitVec.xor_self, BitVec.zero_xor] at this
      rw [this, ones, BitVec.xor_allOnes]
    rw [e3]; rfl

/-! ### a burst -/

/-- One bit turned: bit k, the lowest of each byte first. -/
def flip (l : List UInt8) (k : Nat) : List UInt8 := l.modify (k / 8) (fun b => b ^^^ UInt8.ofBitVec (1#8 <<< (k % 8)))
theorem flip_length (l : List UInt8) (k : Nat) : (flip l k).length = l.length := by simp [flip]

theorem zext_one (j : Nat) (hj : j < 8) : (1#8 <<< j).zeroExtend 32 = 1#32 <<< j := by
  match j, hj with
  | 0, _ => decide
  | 1, _ => decide
  | 2, _ => decide
  | 3, _ => decide
  | 4, _ => decide
  | 5, _ => decide
  | 6, _ => decide
  | 7, _ => decide

theorem steps_one (j : Nat) (hj : j < 32) : steps j (1#32 <<< j) = 1#32 := by
  rw [steps_low j _ (fun i hi => by simp [hi])]
  apply BitVec.eq_of_getLsbD_eq; intro i hi
  simp only [BitVec.getLsbD_ushiftRight, BitVec.getLsbD_shiftLeft]
  by_cases h : j + i < 32
  · simp [h, show j + i - j = i from by omega]
  · simp [h]; omega

theorem run_xor_state (c d : BitVec 32) (l : List UInt8) : run (c ^^^ d) l = run c l ^^^ steps (8 * l.length) d := by
  induction l generalizing c d with
  | nil => rfl
  | cons b l ih =>
    rw [run_cons, run_cons]
    have : over (c ^^^ d) (bv b) = over c (bv b) ^^^ steps 8 d := by
      rw [over_eq, over_eq, ← steps_xor]; congr 1; ac_rfl
    rw [this, ih, List.length_cons, show 8 * (l.length + 1) = 8 + 8 * l.length from by omega, steps_add]

theorem run_flip (c : BitVec 32) (l : List UInt8) (k : Nat) (hk : k < 8 * l.length) : run c (flip l k) = run c l ^^^ steps (8 * l.length - k) 1#32 := by
  induction l generalizing c k with
  | nil => simp at hk
  | cons b l ih =>
    by_cases h8 : k < 8
    · have e : flip (b :: l) k = (b ^^^ UInt8.ofBitVec (1#8 <<< k)) :: l := by
        simp [flip, show k / 8 = 0 from by omega, show k % 8 = k from by omega]
      rw [e, run_cons, run_cons]
      have h1 : bv (b ^^^ UInt8.ofBitVec (1#8 <<< k)) = bv b ^^^ (1#8 <<< k) := by simp [bv]
      have h2 : over c (bv b ^^^ (1#8 <<< k)) = over c (bv b) ^^^ steps 8 (1#32 <<< k) := by
        have := over_xor c 0#32 (bv b) (1#8 <<< k)
        rw [BitVec.xor_zero] at this
        rw [this, over_eq 0#32, zext_one k h8]; simp
      rw [h1, h2, run_xor_state]
      congr 1
      have h3 : steps 8 (1#32 <<< k) = steps (8 - k) 1#32 := by
        rw [show 8 = k + (8 - k) from by omega, steps_add, steps_one k (by omega)]
        congr 1; omega
      rw [h3, ← steps_add]
      congr 1
      simp; omega
    · have e : flip (b :: l) k = b :: flip l (k - 8) := by
        simp only [flip]
        rw [show k / 8 = (k - 8) / 8 + 1 from by omega, List.modify_succ_cons, show k % 8 = (k - 8) % 8 from by omega]
      rw [e, run_cons, run_cons, ih _ (k - 8) (by simp at hk; omega)]
      congr 2
      simp; omega

/-- The low n bits. -/
def low (p : BitVec 32) : Nat → BitVec 32
  | 0 => 0#32
  | n + 1 => if p.getLsbD n then low p n ^^^ (1#32 <<< n) else low p n

/-- A burst: the bits of a pattern, from a place on. -/
def burst (l : List UInt8) (k : Nat) (p : BitVec 32) : Nat → List UInt8
  | 0 => l
  | n + 1 => if p.getLsbD n then flip (burst l k p n) (k + n) else burst l k p n

theorem burst_length (l : List UInt8) (k : Nat) (p : BitVec 32) (n : Nat) : (burst l k p n).length = l.length := by
  induction n with
  | zero => rfl
  | succ n ih => unfold burst; split <;> simp [flip_length, ih]

theorem run_burst (c : BitVec 32) (l : List UInt8) (k : Nat) (p : BitVec 32) (n : Nat) (hn : n ≤ 32) (hk : k + n ≤ 8 * l.length) :
    run c (burst l k p n) = run c l ^^^ steps (8 * l.length - k) (low p n) := by
  induction n with
  | zero => simp [burst, low, steps_zero]
  | succ n ih =>
    have ih := ih (by omega) (by omega)
    unfold burst low
    split
    · rw [run_flip _ _ _ (by rw [burst_length]; omega), ih, burst_length, steps_xor, BitVec.xor_assoc]
      congr 2
      rw [show 8 * l.length - k = n + (8 * l.length - (k + n)) from by omega, steps_add, steps_one n (by omega)]
    · exact ih

theorem low_bit (p : BitVec 32) (n : Nat) (hn : n ≤ 32) : ∀ i, i < 32 → (low p n).getLsbD i = (decide (i < n) && p.getLsbD i) := by
  induction n with
  | zero => intro i hi; simp [low]
  | succ n ih =>
    intro i hi
    have ih := ih (by omega) i hi
    unfold low
    split
    · rename_i hp
      rw [BitVec.getLsbD_xor, ih]
      by_cases h : i = n
      · subst h; simp [hp, hi]
      · by_cases h2 : i < n
        · simp [h2, show i < n + 1 from by omega]
        · have h3 : ¬ (i < n + 1) := by omega
          simp [h2, h3]
          intro _ _
          omega
    · rename_i hp
      rw [ih]
      by_cases h : i = n
      · subst h; simp at hp; simp [hp]
      · have : decide (i < n) = decide (i < n + 1) := by
          by_cases h2 : i < n
          · simp [h2, show i < n + 1 from by omega]
          · simp [h2, show ¬ (i < n + 1) from by omega]
        rw [this]

/-- A pattern of which nothing is left turns nothing. -/
theorem burst_none (l : List UInt8) (k : Nat) (p : BitVec 32) (n : Nat) (hn : n ≤ 32) (h : low p n = 0#32) : burst l k p n = l := by
  have hb : ∀ i, i < n → p.getLsbD i = false := by
    intro i hi
    have := low_bit p n hn i (by omega)
    rw [h] at this
    simpa [hi] using this.symm
  clear h
  induction n with
  | zero => rfl
  | succ n ih =>
    unfold burst
    rw [if_neg (by simp [hb n (by omega)])]
    exact ih (by omega) (fun i hi => hb i (by omega))

/-- A SEALED TEXT WITH A BURST OF AT MOST 32 BITS IS ITSELF, OR NO SEALED TEXT. -/
theorem burst_law (l : List UInt8) (k : Nat) (p : BitVec 32) (n : Nat) (hn : n ≤ 32) (hk : k + n ≤ 8 * l.length) (h4 : 4 ≤ l.length)
    (hs : seal_ (l.take (l.length - 4)) = l) :
    burst l k p n = l ∨ seal_ ((burst l k p n).take (l.length - 4)) ≠ burst l k p n := by
  by_cases h : low p n = 0#32
  · exact .inl (burst_none l k p n hn h)
  · refine .inr (fun e => h ?_)
    have e1 := (sealed_iff l h4).1 hs
    have e2 := (sealed_iff (burst l k p n) (by rw [burst_length]; exact h4)).1 (by rw [burst_length]; exact e)
    rw [run_burst _ _ _ _ _ hn hk, e1] at e2
    have e3 : steps (8 * l.length - k) (low p n) = 0#32 := by
      have : steps 32 (~~~ 0#32) ^^^ (steps 32 (~~~ 0#32) ^^^ steps (8 * l.length - k) (low p n)) = steps 32 (~~~ 0#32) ^^^ steps 32 (~~~ 0#32) := by rw [e2]
      rw [← BitVec.xor_assoc, BitVec.xor_self, BitVec.zero_xor] at this
      exact this
    rw [← steps_zero (8 * l.length - k)] at e3
    exact steps_inj _ e3

end Go.Proofs.YteikdcobpfohcaaGreatDoor.Crc
