/- The walk of wire.Reader's Short. -/
import Derived.Test.YteikdcobpfohcaaGreatDoorMFb
import Derived.Lib.EndianBits
namespace Go.Proofs.YteikdcobpfohcaaGreatDoor
open Go.RowKit

theorem not_more (b : UInt8) : bits .andNot .u64 (b.toNat : Int) 128 = ((b.toNat % 128 : Nat) : Int) := by
  have h : ∀ r : Fin 256, bits .andNot .u64 ((r.val : Nat) : Int) 128 = ((r.val % 128 : Nat) : Int) := by decide +kernel
  exact h ⟨b.toNat, b.toNat_lt⟩
theorem p128 (k : Nat) : (128 : Nat) ^ k = 2 ^ (7 * k) := by rw [Nat.pow_mul]
/-- What is joined: the bytes ahead, and the next one's seven bits above them. -/
theorem short_join (m b k : Nat) (hm : m < 128 ^ k) (hk : k ≤ 9) (hb : b < 128) (h9 : k = 9 → b ≤ 1) :
    bits .or .u64 (m : Int) (IntKind.u64.wrap ((b : Int) * 2 ^ (7 * k))) = ((m + b * 128 ^ k : Nat) : Int) ∧ m + b * 128 ^ k < 18446744073709551616 := by
  have hbig : b * 128 ^ k < 18446744073709551616 := by
    by_cases h : k = 9
    · subst h
      have := h9 rfl
      rw [show (128 : Nat) ^ 9 = 9223372036854775808 from by decide]
      omega
    · have h1 : (128 : Nat) ^ k ≤ 128 ^ 8 := Nat.pow_le_pow_right (by decide) (by omega)
      have h2 : b * 128 ^ k ≤ 127 * 128 ^ 8 := Nat.mul_le_mul (by omega) h1
      rw [show (127 : Nat) * 128 ^ 8 = 9151314442816847872 from by decide] at h2
      omega
  have hsum : m + b * 128 ^ k < 18446744073709551616 := by
    by_cases h : k = 9
    · subst h
      have := h9 rfl
      rw [show (128 : Nat) ^ 9 = 9223372036854775808 from by decide] at hm ⊢
      omega
    · have h1 : (128 : Nat) ^ k ≤ 128 ^ 8 := Nat.pow_le_pow_right (by decide) (by omega)
      have h2 : b * 128 ^ k ≤ 127 * 128 ^ 8 := Nat.mul_le_mul (by omega) h1
      rw [show (127 : Nat) * 128 ^ 8 = 9151314442816847872 from by decide] at h2
      rw [show (128 : Nat) ^ 8 = 72057594037927936 from by decide] at h1
      omega
  refine ⟨?_, hsum⟩
  have e1 : ((b : Int) * 2 ^ (7 * k)) = ((b * 128 ^ k : Nat) : Int) := by rw [p128]; push_cast; rfl
  rw [e1, show IntKind.u64.wrap ((b * 128 ^ k : Nat) : Int) = ((b * 128 ^ k : Nat) : Int) from by rw [IntKind.wrap_u64]; omega]
  have hx0 : b * 128 ^ k % 2 ^ (7 * k) = 0 := by rw [← p128]; exact Nat.mul_mod_left b _
  have hm2 : m < 2 ^ (7 * k) := by rw [← p128]; exact hm
  rw [bits_join_low .u64 64 (by decide) (fun x h0 h1 => by rw [IntKind.wrap_u64]; omega) (7 * k) (m : Int) ((b * 128 ^ k : Nat) : Int) (by omega) (by exact_mod_cast hm2) (by omega) (by omega) (by exact_mod_cast hx0) (by omega)]
  omega

/-- One round of a short number. -/
theorem shortR_no {s : List UInt8} {most frm f k n : Nat} {st : RdSt} (h : (st.take s 1).2.1 = false) : shortR s most frm (f + 1) k n st = (0, ⟨frm, 8, frm⟩) := by
  rw [shortR, if_pos h]
theorem shortR_bad {s : List UInt8} {most frm f k n : Nat} {st : RdSt} (h : (st.take s 1).2.1 = true) (hb : (k = 9 ∧ 1 < val (st.take s 1).1) ∨ (0 < k ∧ val (st.take s 1).1 = 0)) : shortR s most frm (f + 1) k n st = (0, ⟨frm, 4, frm⟩) := by
  rw [shortR, h, if_neg (by decide), if_pos hb]
theorem shortR_end {s : List UInt8} {most frm f k n : Nat} {st : RdSt} (h : (st.take s 1).2.1 = true) (hb : ¬ ((k = 9 ∧ 1 < val (st.take s 1).1) ∨ (0 < k ∧ val (st.take s 1).1 = 0))) (hs : val (st.take s 1).1 < 128) :
    shortR s most frm (f + 1) k n st = (if most < n + val (st.take s 1).1 * 128 ^ k then (0, ⟨frm, 40, frm⟩) else (n + val (st.take s 1).1 * 128 ^ k, (st.take s 1).2.2)) := by
  rw [shortR, h, if_neg (by decide), if_neg hb, if_pos hs]
theorem shortR_go {s : List UInt8} {most frm f k n : Nat} {st : RdSt} (h : (st.take s 1).2.1 = true) (hb : ¬ ((k = 9 ∧ 1 < val (st.take s 1).1) ∨ (0 < k ∧ val (st.take s 1).1 = 0))) (hs : ¬ val (st.take s 1).1 < 128) :
    shortR s most frm (f + 1) k n st = shortR s most frm f (k + 1) (n + (val (st.take s 1).1 - 128) * 128 ^ k) (st.take s 1).2.2 := by
  rw [shortR, h, if_neg (by decide), if_neg hb, if_neg hs]
theorem take_true {st : RdSt} {s : List UInt8} (h : (st.take s 1).2.1 = true) : (st.take s 1).1.length = 1 ∧ (st.take s 1).2.2.e = 0 := by
  unfold RdSt.take at h ⊢
  split
  · rename_i h1; rw [if_pos h1] at h; cases h
  · rename_i h1
    rw [if_neg h1] at h
    split
    · rename_i h2; rw [if_pos h2] at h; cases h
    · rename_i h2
      refine ⟨by simp; omega, ?_⟩
      show st.e = 0
      exact Classical.not_not.1 h1

set_option maxRecDepth 100000 in
set_option maxHeartbeats 800000 in
theorem rd_short (w : World) (p : Nat) (s : ByteArray) (st : RdSt) (h : IsRd w p s st) (most : Nat) :
    Calls Tryz.prog 203 #[.pointer (some ⟨p, 0, none⟩), .int .u64 (most : Int)] w fun e w' => e = .returned (.int .u64 ((st.short s.data.toList most).1 : Int)) ∧ IsRd w' p s (st.short s.data.toList most).2 ∧ Fr (fun k => k = p) w w' := by
  obtain ⟨R, hR⟩ : ∃ R, R = st.short s.data.toList most := ⟨_, rfl⟩
  rw [← hR]
  by_cases he : st.e = 0
  · have HS := Lib.hid (show ∃ f, 0 + f = 10 ∧ R = shortR s.data.toList most st.at_ f 0 0 st from ⟨10, rfl, by rw [hR]; unfold RdSt.short; rw [if_neg (fun hx => hx he)]⟩)
    clear hR
    have hat := h.2.1
    have hss := h.2.2
    obtain ⟨c0, c1, c2, c3⟩ := h.cs
    have H := Lib.hid h
    have HE := Lib.hid he
    clear h he
    obtain ⟨frm, hfrm⟩ : ∃ frm, frm = st.at_ := ⟨_, rfl⟩
    rw [← hfrm] at hat c1
    have HS1 := Lib.hid (show ∃ f, 0 + f = 10 ∧ R = shortR s.data.toList most frm f 0 0 st from by rw [hfrm]; exact HS.out)
    clear HS hfrm
    go_enter Tryz.func203, Tryz.ntmps203
    go_wp2_with fail
    refine (rd_good _ p s st H.out true (by rw [HE.out]; rfl)).mono ?_
    rintro e w1 ⟨rfl, rfl⟩
    go_wp2
    go_loopw [6, 7] (fun n sh wr => ∃ (k m : Nat) (sk : RdSt) (z : Int), n = .int .u64 (m : Int) ∧ sh = .int .i64 z ∧ k ≤ 9 ∧ Hid (z = 7 * (k : Int)) ∧ Hid (m < 128 ^ k) ∧ Hid (IsRd wr p s sk) ∧ Hid (Fr (fun k => k = p) w wr) ∧ Hid (∃ f, k + f = 10 ∧ R = shortR s.data.toList most frm f k m sk)) (fun _ sh _ => 70 - (intOf sh).toNat)
    case atStart => exact ⟨0, 0, st, 0, rfl, rfl, by omega, Lib.hid rfl, Lib.hid (by decide), H, Lib.hid (Fr.refl _ _), HS1⟩
    case round =>
      obtain ⟨k, m, sk, z, rfl, rfl, hk, HZ, HM, HR, HF, HQ⟩ := hrel
      have hz0 : 0 ≤ z := by have := HZ.out; omega
      have hz1 : z ≤ 63 := by have := HZ.out; omega
      obtain ⟨f, hkf, hq⟩ : ∃ f, k + (f + 1) = 10 ∧ R = shortR s.data.toList most frm (f + 1) k m sk := by
        obtain ⟨f, h1, h2⟩ := HQ.out
        match f, h1, h2 with
        | 0, h1, _ => omega
        | f + 1, h1, h2 => exact ⟨f, h1, h2⟩
      have HQ1 := Lib.hid hq
      clear hq HQ
      go_wp2_with fail
      refine (rd_take wr p s sk HR.out 1 (by omega)).mono ?_
      rintro e w2 ⟨r, hr, rfl, h2, hf2⟩
      have HF2 := Lib.hid (HF.out.trans hf2)
      have H2 := Lib.hid h2
      clear hf2 h2
      cases ht : (sk.take s.data.toList 1).2.1
      · have HE2 := Lib.hid (HQ1.out.trans (shortR_no ht))
        clear ht hr
        go_wp2_with fail
        refine (rd_wrong w2 p s _ H2.out 8 frm hat).mono ?_
        rintro e w3 ⟨rfl, h3, hf3⟩
        have H3 := Lib.hid h3
        clear h3
        go_wp2
        go_ret
        rw [HE2.out]
        exact ⟨rfl, H3.out, HF2.out.trans hf3⟩
      · obtain ⟨hr1, hre⟩ := take_true ht
        have hrs : r.size = 1 := by rw [size_of_list hr]; exact hr1
        obtain ⟨b, hb⟩ : ∃ b, b = r[0]'(by omega) := ⟨_, rfl⟩
        have hvb : val (sk.take s.data.toList 1).1 = b.toNat := by
          have h0 : 0 < r.size := by omega
          have h9 := val_take_succ r 0 h0
          rw [List.take_of_length_le (by rw [size_toList]; omega), hr] at h9
          rw [h9, hb]
          simp [val]
        have hwb : IntKind.u64.wrap (b.toNat : Int) = (b.toNat : Int) := by have := b.toNat_lt; rw [IntKind.wrap_u64]; omega
        have hb8 := b.toNat_lt
        have HG := Lib.hid hr
        clear hr
        have hx : IntKind.u64.wrap ((r[0]'(by omega)).toNat : Int) = (b.toNat : Int) := by rw [← hb]; exact hwb
        have hnm := not_more b
        clear hb hwb
        by_cases h9 : z = 63
        · have hk9 : k = 9 := by have := HZ.out; omega
          subst h9
          by_cases hb1 : 1 < b.toNat
          · have HE2 := Lib.hid (HQ1.out.trans (shortR_bad ht (by rw [hvb]; omega)))
            clear ht hvb
            go_wp2_with fail
            refine (rd_wrong w2 p s _ H2.out 4 frm hat).mono ?_
            rintro e w3 ⟨rfl, h3, hf3⟩
            have H3 := Lib.hid h3
            clear h3
            go_wp2
            go_ret
            rw [HE2.out]
            exact ⟨rfl, H3.out, HF2.out.trans hf3⟩
          · by_cases hb0 : b.toNat = 0
            · have HE2 := Lib.hid (HQ1.out.trans (shortR_bad ht (by rw [hvb]; omega)))
              clear ht hvb
              go_wp2_with fail
              refine (rd_wrong w2 p s _ H2.out 4 frm hat).mono ?_
              rintro e w3 ⟨rfl, h3, hf3⟩
              have H3 := Lib.hid h3
              clear h3
              go_wp2
              go_ret
              rw [HE2.out]
              exact ⟨rfl, H3.out, HF2.out.trans hf3⟩
            · have hs : b.toNat < 128 := by omega
              obtain ⟨hj1, hj2⟩ := short_join m (b.toNat % 128) k HM.out hk (by omega) (fun h => by omega)
              obtain ⟨N, hN⟩ : ∃ N, N = m + b.toNat % 128 * 128 ^ k := ⟨_, rfl⟩
              rw [← hN] at hj1 hj2
              have HJ := Lib.hid (show bits .or .u64 (m : Int) ((b.toNat : Int) % 128 * 9223372036854775808) = (N : Int) from by rw [← hj1, hk9, show (2 : Int) ^ (7 * 9) = 9223372036854775808 from by decide, IntKind.wrap_u64]; congr 1; omega)
              clear hj1
              have HE2 := Lib.hid (show R = (if most < N then (0, ⟨frm, 40, frm⟩) else (N, (sk.take s.data.toList 1).2.2)) from by
                rw [HQ1.out, shortR_end ht (by rw [hvb]; omega) (by rw [hvb]; exact hs), hvb, hN, Nat.mod_eq_of_lt hs])
              clear ht hvb hN
              have hup := rd_upto w2 p s _ H2.out N most frm hat
              rw [← HE2.out] at hup
              have HUP := Lib.hid hup
              clear hup
              go_wp2_with fail
              rw [HJ.out]
              refine HUP.out.mono ?_
              rintro e w3 ⟨rfl, h3, hf3⟩
              have H3 := Lib.hid h3
              clear h3
              go_wp2
              go_ret
              exact ⟨rfl, H3.out, HF2.out.trans hf3⟩
        · have h9b : (z == 63) = false := by simpa using h9
          have hk9 : k ≠ 9 := by have := HZ.out; omega
          by_cases h0 : z = 0
          · have hk0 : k = 0 := by have := HZ.out; omega
            by_cases hs : b.toNat < 128
            · obtain ⟨hj1, hj2⟩ := short_join m (b.toNat % 128) k HM.out hk (by omega) (fun h => by omega)
              obtain ⟨N, hN⟩ : ∃ N, N = m + b.toNat % 128 * 128 ^ k := ⟨_, rfl⟩
              rw [← hN] at hj1 hj2
              have HJ := Lib.hid (show bits .or .u64 (m : Int) ((b.toNat : Int) % 128) = (N : Int) from by rw [← hj1, hk0, Nat.mul_zero, Int.pow_zero, Int.mul_one, IntKind.wrap_u64]; congr 1; omega)
              clear hj1
              subst h0
              have HE2 := Lib.hid (show R = (if most < N then (0, ⟨frm, 40, frm⟩) else (N, (sk.take s.data.toList 1).2.2)) from by
                rw [HQ1.out, shortR_end ht (by rw [hvb]; omega) (by rw [hvb]; exact hs), hvb, hN, Nat.mod_eq_of_lt hs])
              clear ht hvb hN
              have hup := rd_upto w2 p s _ H2.out N most frm hat
              rw [← HE2.out] at hup
              have HUP := Lib.hid hup
              clear hup
              go_wp2_with fail
              rw [HJ.out]
              refine HUP.out.mono ?_
              rintro e w3 ⟨rfl, h3, hf3⟩
              have H3 := Lib.hid h3
              clear h3
              go_wp2
              go_ret
              exact ⟨rfl, H3.out, HF2.out.trans hf3⟩
            · obtain ⟨hj1, hj2⟩ := short_join m (b.toNat % 128) k HM.out hk (by omega) (fun h => by omega)
              obtain ⟨N, hN⟩ : ∃ N, N = m + b.toNat % 128 * 128 ^ k := ⟨_, rfl⟩
              rw [← hN] at hj1 hj2
              have HJ := Lib.hid (show bits .or .u64 (m : Int) ((b.toNat : Int) % 128) = (N : Int) from by rw [← hj1, hk0, Nat.mul_zero, Int.pow_zero, Int.mul_one, IntKind.wrap_u64]; congr 1; omega)
              clear hj1
              subst h0
              have HE2 := Lib.hid (show ∃ f, k + 1 + f = 10 ∧ R = shortR s.data.toList most frm f (k + 1) N (sk.take s.data.toList 1).2.2 from ⟨f, by omega, by
                rw [HQ1.out, shortR_go ht (by rw [hvb]; omega) (by rw [hvb]; exact hs), hvb, hN, show b.toNat - 128 = b.toNat % 128 from by omega]⟩)
              have HM2 := Lib.hid (show N < 128 ^ (k + 1) from by
                rw [hN, Nat.pow_succ]
                have h1 := HM.out
                have h2 : b.toNat % 128 * 128 ^ k ≤ 127 * 128 ^ k := Nat.mul_le_mul_right _ (by omega)
                omega)
              clear ht hvb hN
              go_wp2
              refine ⟨⟨k + 1, N, _, 7, by rw [HJ.out], rfl, by omega, Lib.hid (by have := HZ.out; push_cast; omega), HM2, H2, HF2, HE2⟩, ?_⟩
              simp [intOf]
          · have hk0 : 0 < k := by have := HZ.out; omega
            have hzp : 0 < z := by omega
            by_cases hb0 : b.toNat = 0
            · have HE2 := Lib.hid (HQ1.out.trans (shortR_bad ht (by rw [hvb]; omega)))
              clear ht hvb
              go_wp2_with fail
              refine (rd_wrong w2 p s _ H2.out 4 frm hat).mono ?_
              rintro e w3 ⟨rfl, h3, hf3⟩
              have H3 := Lib.hid h3
              clear h3
              go_wp2
              go_ret
              rw [HE2.out]
              exact ⟨rfl, H3.out, HF2.out.trans hf3⟩
            · by_cases hs : b.toNat < 128
              · obtain ⟨hj1, hj2⟩ := short_join m (b.toNat % 128) k HM.out hk (by omega) (fun h => by omega)
                obtain ⟨N, hN⟩ : ∃ N, N = m + b.toNat % 128 * 128 ^ k := ⟨_, rfl⟩
                rw [← hN] at hj1 hj2
                have HJ := Lib.hid (show bits .or .u64 (m : Int) (IntKind.u64.wrap ((b.toNat : Int) % 128 * 2 ^ z.toNat)) = (N : Int) from by rw [← hj1, show z.toNat = 7 * k from by have := HZ.out; omega]; rfl)
                clear hj1
                have HE2 := Lib.hid (show R = (if most < N then (0, ⟨frm, 40, frm⟩) else (N, (sk.take s.data.toList 1).2.2)) from by
                  rw [HQ1.out, shortR_end ht (by rw [hvb]; omega) (by rw [hvb]; exact hs), hvb, hN, Nat.mod_eq_of_lt hs])
                clear ht hvb hN
                have hup := rd_upto w2 p s _ H2.out N most frm hat
                rw [← HE2.out] at hup
                have HUP := Lib.hid hup
                clear hup
                go_wp2_with fail
                rw [HJ.out]
                refine HUP.out.mono ?_
                rintro e w3 ⟨rfl, h3, hf3⟩
                have H3 := Lib.hid h3
                clear h3
                go_wp2
                go_ret
                exact ⟨rfl, H3.out, HF2.out.trans hf3⟩
              · obtain ⟨hj1, hj2⟩ := short_join m (b.toNat % 128) k HM.out hk (by omega) (fun h => by omega)
                obtain ⟨N, hN⟩ : ∃ N, N = m + b.toNat % 128 * 128 ^ k := ⟨_, rfl⟩
                rw [← hN] at hj1 hj2
                have HJ := Lib.hid (show bits .or .u64 (m : Int) (IntKind.u64.wrap ((b.toNat : Int) % 128 * 2 ^ z.toNat)) = (N : Int) from by rw [← hj1, show z.toNat = 7 * k from by have := HZ.out; omega]; rfl)
                clear hj1
                have HE2 := Lib.hid (show ∃ f, k + 1 + f = 10 ∧ R = shortR s.data.toList most frm f (k + 1) N (sk.take s.data.toList 1).2.2 from ⟨f, by omega, by
                  rw [HQ1.out, shortR_go ht (by rw [hvb]; omega) (by rw [hvb]; exact hs), hvb, hN, show b.toNat - 128 = b.toNat % 128 from by omega]⟩)
                have HM2 := Lib.hid (show N < 128 ^ (k + 1) from by
                  rw [hN, Nat.pow_succ]
                  have h1 := HM.out
                  have h2 : b.toNat % 128 * 128 ^ k ≤ 127 * 128 ^ k := Nat.mul_le_mul_right _ (by omega)
                  omega)
                clear ht hvb hN
                go_wp2
                refine ⟨⟨k + 1, N, _, z + 7, by rw [HJ.out], rfl, by omega, Lib.hid (by have := HZ.out; push_cast; omega), HM2, H2, HF2, HE2⟩, ?_⟩
                simp [intOf]; omega
  · have HS := Lib.hid (show R = (0, st) from by rw [hR]; unfold RdSt.short; rw [if_pos he])
    rw [HS.out]
    clear hR HS
    have H := Lib.hid h
    have HE := Lib.hid he
    clear h he
    go_enter Tryz.func203, Tryz.ntmps203
    go_wp2_with fail
    refine (rd_good _ p s st H.out false (by simpa using HE.out)).mono ?_
    rintro e w1 ⟨rfl, rfl⟩
    go_wp2
    go_ret
    exact ⟨rfl, H.out, Fr.refl _ _⟩
end Go.Proofs.YteikdcobpfohcaaGreatDoor
