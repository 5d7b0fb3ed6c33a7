/- ManifWhole's end: the files behind the crash, held against those ahead of it. -/
import Derived.Test.YtljmekdilhphaaaGreatDoorWhx
import Derived.Lib.QuietBelow
import Derived.BigQuiet
namespace Go.Proofs.YtljmekdilhphaaaGreatDoor
open Go.RowKit Go.Maps Go.Sort

/-- What is left of a body behind its first statements. -/
def dropS : Nat → Code → Code
  | n + 1, .seq _ b => dropS n b
  | _, c => c

theorem drop_at {B : Fs} {j : Nat} (h : j < B.length) : B.drop j = B[j] :: B.drop (j + 1) := (List.getElem_cons_drop ..).symm

def CrMatch (A B : Fs) (i j : Nat) : Prop := i ≤ A.length ∧ j ≤ B.length ∧ Pairs (oth (A.drop i)) (oth (B.drop j))
theorem CrMatch.skipA {A B : Fs} {i j : Nat} (h : CrMatch A B i j) (hi : i < A.length) (hm : isM A[i].name = true) : CrMatch A B (i + 1) j := by
  obtain ⟨h1, h2, h3⟩ := h
  refine ⟨by omega, h2, ?_⟩
  rw [drop_at hi, oth_cons_in hm] at h3; exact h3
theorem CrMatch.skipB {A B : Fs} {i j : Nat} (h : CrMatch A B i j) (hj : j < B.length) (hm : isM B[j].name = true) : CrMatch A B i (j + 1) := by
  obtain ⟨h1, h2, h3⟩ := h
  refine ⟨h1, by omega, ?_⟩
  rw [drop_at hj, oth_cons_in hm] at h3; exact h3
theorem CrMatch.noB {A B : Fs} {i j : Nat} (h : CrMatch A B i j) (hi : i < A.length) (hm : isM A[i].name = false) (hj : ¬ j < B.length) : False := by
  obtain ⟨h1, h2, h3⟩ := h
  rw [drop_at hi, oth_cons_out hm, show B.drop j = [] from List.drop_eq_nil_of_le (by omega)] at h3
  cases h3
theorem CrMatch.both {A B : Fs} {i j : Nat} (h : CrMatch A B i j) (hi : i < A.length) (hm : isM A[i].name = false) (hj : j < B.length) (hmb : isM B[j].name = false) : KeptOf A[i] B[j] ∧ CrMatch A B (i + 1) (j + 1) := by
  obtain ⟨h1, h2, h3⟩ := h
  rw [drop_at hi, oth_cons_out hm, drop_at hj, oth_cons_out hmb] at h3
  cases h3 with
  | cons a b => exact ⟨a, by omega, by omega, b⟩
theorem CrMatch.endB {A B : Fs} {j : Nat} (h : CrMatch A B A.length j) (hj : j < B.length) : isM B[j].name = true := by
  obtain ⟨h1, h2, h3⟩ := h
  rw [List.drop_eq_nil_of_le (Nat.le_refl _)] at h3
  cases hm : isM B[j].name
  · rw [drop_at hj, oth_cons_out hm] at h3; cases h3
  · rfl

set_option maxRecDepth 100000 in
set_option maxHeartbeats 4000000 in
theorem wh_tail (w wr : World) (hb : Below w.heap.size w wr) (p b : Nat) (st3 : DkSt) (hd : IsDk wr p b st3) (l : Fs) (ab : Option Addr) (cb : Nat) (hv : FilesAt wr (.slice ab l.length cb) l) (hpr : Pairs (oth st3.fs) (oth l)) (hll : l.length ≤ 64) (hsm : ∀ f ∈ l, f.firm.length + f.pend.length ≤ 1048576) {u0 u1 u2 u3 u4 u5 u6 u7 u8 u9 u10 u12 u14 u15 u16 u17 u18 u19 u20 u21 u22 u23 u24 u25 u26 u27 u28 u29 u30 u31 u32 u33 u34 u35 u36 u37 u38 u39 u40 u41 u42 u43 u44 u45 u46 u47 u48 u49 u50 u51 u52 u53 u54 u55 u56 u57 u58 u59 u60 u61 u62 u63 u64 u65 u66 u67 u68 u69 u70 u71 u72 u73 u74 u75 u76 u77 u78 u79 u80 u81 u82 u83 u84 u85 u86 u87 u88 u89 u90 u91 u92 u93 u94 u95 u96 u97 u98 u99 u100 u101 u102 u103 u104 u105 u106 u107 u108 u109 u110 u111 u112 u113 u114 u115 u116 u117 u118 u119 u120 u121 u122 u123 u124 u125 u126 u127 u128 u129 u130 u131 u132 u133 u134 u135 u136 u137 u138 u139 u140 u141 u142 u143 u144 u145 u146 u147 u148 u149 u150 u151 u152 u153 u154 u155 u156 u157 u158 u159 u160 u161 u162 u163 u164 u165 u166 u167 u168 u169 u170 u171 u172 u173 u174 u175 u176 u177 u178 u179 u180 u181 u182 u183 u184 u185 u186 u187 u188 u189 u190 u191 u192 u193 u194 u195 u196 u197 u198 u199 u200 u201 u202 u203 u204 u205 u206 u207 u208 u209 u210 u211 u212 u213 u214 u215 u216 u217 u218 u219 u220 u221 u222 u223 u224 u225 u226 u227 u228 u229 u230 u231 u232 u233 u234 u235 u236 u237 u238 u239 u240 u241 u242 u243 u244 u245 u246 u247 u248 u249 u250 u251 u252 u253 u254 u255 u256 u257 u258 u259 u260 u261 u262 u263 u264 u265 u266 u267 u268 u269 u270 u271 u272 u273 u274 u275 u276 u277 u278 u279 u280 u281 : Value} :
    Code.wp Tryz.prog (dropS 16 (Tryz.f6.body.getD .skip)) (bodyPost Tryz.prog Tryz.f6 fun e w' => e = .returned (.bool true) ∧ Below w.heap.size w w') { tmps := (List.toArray (u0 :: u1 :: u2 :: u3 :: u4 :: u5 :: u6 :: u7 :: u8 :: u9 :: u10 :: .pointer (some ⟨p, 0, none⟩) :: u12 :: .slice ab l.length cb :: u14 :: u15 :: u16 :: u17 :: u18 :: u19 :: u20 :: u21 :: u22 :: u23 :: u24 :: u25 :: u26 :: u27 :: u28 :: u29 :: u30 :: u31 :: u32 :: u33 :: u34 :: u35 :: u36 :: u37 :: u38 :: u39 :: u40 :: u41 :: u42 :: u43 :: u44 :: u45 :: u46 :: u47 :: u48 :: u49 :: u50 :: u51 :: u52 :: u53 :: u54 :: u55 :: u56 :: u57 :: u58 :: u59 :: u60 :: u61 :: u62 :: u63 :: u64 :: u65 :: u66 :: u67 :: u68 :: u69 :: u70 :: u71 :: u72 :: u73 :: u74 :: u75 :: u76 :: u77 :: u78 :: u79 :: u80 :: u81 :: u82 :: u83 :: u84 :: u85 :: u86 :: u87 :: u88 :: u89 :: u90 :: u91 :: u92 :: u93 :: u94 :: u95 :: u96 :: u97 :: u98 :: u99 :: u100 :: u101 :: u102 :: u103 :: u104 :: u105 :: u106 :: u107 :: u108 :: u109 :: u110 :: u111 :: u112 :: u113 :: u114 :: u115 :: u116 :: u117 :: u118 :: u119 :: u120 :: u121 :: u122 :: u123 :: u124 :: u125 :: u126 :: u127 :: u128 :: u129 :: u130 :: u131 :: u132 :: u133 :: u134 :: u135 :: u136 :: u137 :: u138 :: u139 :: u140 :: u141 :: u142 :: u143 :: u144 :: u145 :: u146 :: u147 :: u148 :: u149 :: u150 :: u151 :: u152 :: u153 :: u154 :: u155 :: u156 :: u157 :: u158 :: u159 :: u160 :: u161 :: u162 :: u163 :: u164 :: u165 :: u166 :: u167 :: u168 :: u169 :: u170 :: u171 :: u172 :: u173 :: u174 :: u175 :: u176 :: u177 :: u178 :: u179 :: u180 :: u181 :: u182 :: u183 :: u184 :: u185 :: u186 :: u187 :: u188 :: u189 :: u190 :: u191 :: u192 :: u193 :: u194 :: u195 :: u196 :: u197 :: u198 :: u199 :: u200 :: u201 :: u202 :: u203 :: u204 :: u205 :: u206 :: u207 :: u208 :: u209 :: u210 :: u211 :: u212 :: u213 :: u214 :: u215 :: u216 :: u217 :: u218 :: u219 :: u220 :: u221 :: u222 :: u223 :: u224 :: u225 :: u226 :: u227 :: u228 :: u229 :: u230 :: u231 :: u232 :: u233 :: u234 :: u235 :: u236 :: u237 :: u238 :: u239 :: u240 :: u241 :: u242 :: u243 :: u244 :: u245 :: u246 :: u247 :: u248 :: u249 :: u250 :: u251 :: u252 :: u253 :: u254 :: u255 :: u256 :: u257 :: u258 :: u259 :: u260 :: u261 :: u262 :: u263 :: u264 :: u265 :: u266 :: u267 :: u268 :: u269 :: u270 :: u271 :: u272 :: u273 :: u274 :: u275 :: u276 :: u277 :: u278 :: u279 :: u280 :: u281 :: [])), defers := [] } wr := by
  conv => arg 2; whnf
  have HB := Lib.hid hb
  have HD := Lib.hid hd
  have HV := Lib.hid hv
  have HPR := Lib.hid hpr
  have HSM := Lib.hid hsm
  have hfew := hd.ok.fs.few
  clear hb hd hv hpr hsm
  go_wp2_with fail
  refine (dk_files wr p b st3 HD.out).mono ?_
  rintro e w1 ⟨v, rfl, hv1, hvb, hb1⟩
  have B1 := Lib.hid (HB.out.trans (hb1.mono HB.out.size))
  have HV1 := Lib.hid (HV.out.pure hb1)
  have hva := hv1.at
  obtain ⟨aa, ca, rfl⟩ := hva.shape
  have HA1 := Lib.hid hva
  clear hb1 hv1 hvb hva
  go_wp2_with fail
  go_loopw [29, 30] (fun at_ i wx => ∃ ii ia : Nat, at_ = .int .i64 ia ∧ i = .int .i64 ii ∧ CrMatch st3.fs l ii ia ∧ Below w1.heap.size w1 wx) (fun _ i _ => st3.fs.length - (intOf i).toNat)
  case atStart => exact ⟨0, 0, rfl, rfl, ⟨by omega, by omega, HPR.out⟩, Below.refl _ _⟩
  case round =>
    obtain ⟨ii, ia, rfl, rfl, hcm, hbx⟩ := hrel
    have HCM := Lib.hid hcm
    have HBX := Lib.hid hbx
    have hi1 := hcm.1
    have hi2 := hcm.2.1
    clear hcm hbx
    by_cases hlt : ii < st3.fs.length
    · obtain ⟨q, o, rfl, hql, x, y, z, e1, e2, e3, h1, h2, h3⟩ := (HA1.out.pure HBX.out).at ii hlt
      have HE := Lib.hid (And.intro e1 (And.intro e2 e3))
      cases hm : isM st3.fs[ii].name
      · have g1 : (x.toList == [77, 65, 78, 73, 70, 69, 83, 84]) = false := by rw [ByteArray.toList_eq, e1]; unfold isM at hm; exact (Bool.or_eq_false_iff.1 hm).1
        have g2 : (x.toList == [77, 65, 78, 73, 70, 69, 83, 84, 46, 110, 101, 119]) = false := by rw [ByteArray.toList_eq, e1]; unfold isM at hm; exact (Bool.or_eq_false_iff.1 hm).2
        have HMM := Lib.hid hm
        clear e1 e2 e3 hm
        obtain ⟨wo, rfl⟩ : ∃ wo : World, wo = wr := ⟨_, rfl⟩
        go_wp2_with fail
        go_loop [29] (fun at_ => ∃ ja : Nat, at_ = .int .i64 ja ∧ CrMatch st3.fs l ii ja) (fun at_ => l.length - (intOf at_).toNat)
        case atStart => exact ⟨ia, rfl, HCM.out⟩
        case round =>
          obtain ⟨ja, rfl, hcj⟩ := hrel
          have HCJ := Lib.hid hcj
          have hj2 := hcj.2.1
          clear hcj
          by_cases hjl : ja < l.length
          · obtain ⟨q2, o2, rfl, hql2, x2, y2, z2, f1, f2, f3, k1, k2, k3⟩ := (HV1.out.pure HBX.out).at ja hjl
            cases hm2 : isM l[ja].name
            · have g3 : (x2.toList == [77, 65, 78, 73, 70, 69, 83, 84]) = false := by rw [ByteArray.toList_eq, f1]; unfold isM at hm2; exact (Bool.or_eq_false_iff.1 hm2).1
              have g4 : (x2.toList == [77, 65, 78, 73, 70, 69, 83, 84, 46, 110, 101, 119]) = false := by rw [ByteArray.toList_eq, f1]; unfold isM at hm2; exact (Bool.or_eq_false_iff.1 hm2).2
              obtain ⟨hkept, hnext⟩ := HCJ.out.both hlt HMM.out hjl hm2
              have HNX := Lib.hid hnext
              have HCON := Lib.hid (fun W => kept_any W x y z x2 y2 z2 st3.fs[ii] l[ja] HE.out.1 HE.out.2.1 HE.out.2.2 f1 f2 f3 hkept (HSM.out _ (List.getElem_mem hjl)))
              clear f1 f2 f3 hm2 hkept hnext
              go_wp2_with fail
              have r1 := cell_regrown h1
              have r2 := cell_regrown h2
              have r3 := cell_regrown h3
              have r4 := cell_regrown k1
              have r5 := cell_regrown k2
              have r6 := cell_regrown k3
              have hge : decide ((l.length : Int) ≤ (ja : Int)) = false := by simp; omega
              have hge2 : decide (l.length ≤ ja) = false := by simp; omega
              have q1 : ∀ d os, Calls Tryz.prog 33 #[.agg #[.string x, .string y, .string z], .agg #[.string x2, .string y2, .string z2]] (grow (redrawn wo d) os) fun e w'' => e = .returned (.bool true) ∧ ∃ p : Regrown, w'' = grow (redrawn wo p.d) p.os := fun d os => Calls.regrown_of (HCON.out _)
              refine wp_region_quiet_below (by kernel_rfl) (by kernel_rfl) ?_
              repeat (go_big_quiet_step (first | exact q1 _ _))
              refine wpQuiet_nil ?_
              intro _ hw'
              obtain ⟨⟨dq, osq⟩, hw''⟩ := hw'
              subst hw''
              have HG := Lib.hid ((below_regrown wo dq osq).mono HBX.out.size)
              clear r1 r2 r3 r4 r5 r6 q1 hge hge2
              go_wp2_with fail
              go_roundw
              case rel => exact ⟨ii + 1, ja + 1, by go_num, by go_num, HNX.out, HBX.out.trans HG.out⟩
              case measure => simp [intOf]; omega
            · have hmm : l[ja].name = fileN ∨ l[ja].name = freshN := by unfold isM at hm2; simpa using hm2
              have HNX := Lib.hid (HCJ.out.skipB hjl hm2)
              rcases hmm with hmm | hmm
              · have g3 : (x2.toList == [77, 65, 78, 73, 70, 69, 83, 84]) = true := by rw [ByteArray.toList_eq, f1, hmm]; rfl
                clear f1 f2 f3 hm2 hmm
                go_wp2_with fail
                go_round
                case rel => exact ⟨ja + 1, by go_num, HNX.out⟩
                case measure => simp [intOf]; omega
              · have g3 : (x2.toList == [77, 65, 78, 73, 70, 69, 83, 84]) = false := by rw [ByteArray.toList_eq, f1, hmm]; rfl
                have g4 : (x2.toList == [77, 65, 78, 73, 70, 69, 83, 84, 46, 110, 101, 119]) = true := by rw [ByteArray.toList_eq, f1, hmm]; rfl
                clear f1 f2 f3 hm2 hmm
                go_wp2_with fail
                go_round
                case rel => exact ⟨ja + 1, by go_num, HNX.out⟩
                case measure => simp [intOf]; omega
          · exact (HCJ.out.noB hlt HMM.out hjl).elim
      · have hmm : st3.fs[ii].name = fileN ∨ st3.fs[ii].name = freshN := by unfold isM at hm; simpa using hm
        have HNX := Lib.hid (HCM.out.skipA hlt hm)
        rcases hmm with hmm | hmm
        · have g3 : (x.toList == [77, 65, 78, 73, 70, 69, 83, 84]) = true := by rw [ByteArray.toList_eq, e1, hmm]; rfl
          clear e1 e2 e3 hm hmm
          go_wp2_with fail
          go_roundw
          case rel => exact ⟨ii + 1, ia, rfl, by go_num, HNX.out, HBX.out⟩
          case measure => simp [intOf]; omega
        · have g3 : (x.toList == [77, 65, 78, 73, 70, 69, 83, 84]) = false := by rw [ByteArray.toList_eq, e1, hmm]; rfl
          have g4 : (x.toList == [77, 65, 78, 73, 70, 69, 83, 84, 46, 110, 101, 119]) = true := by rw [ByteArray.toList_eq, e1, hmm]; rfl
          clear e1 e2 e3 hm hmm
          go_wp2_with fail
          go_roundw
          case rel => exact ⟨ii + 1, ia, rfl, by go_num, HNX.out, HBX.out⟩
          case measure => simp [intOf]; omega
    · obtain rfl : ii = st3.fs.length := by omega
      obtain ⟨wo, rfl⟩ : ∃ wo : World, wo = wr := ⟨_, rfl⟩
      go_wp2_with fail
      go_loop [29] (fun at_ => ∃ ja : Nat, at_ = .int .i64 ja ∧ CrMatch st3.fs l st3.fs.length ja) (fun at_ => l.length - (intOf at_).toNat)
      case atStart => exact ⟨ia, rfl, HCM.out⟩
      case round =>
        obtain ⟨ja, rfl, hcj⟩ := hrel
        have HCJ := Lib.hid hcj
        have hj2 := hcj.2.1
        clear hcj
        by_cases hjl : ja < l.length
        · obtain ⟨q2, o2, rfl, hql2, x2, y2, z2, f1, f2, f3, k1, k2, k3⟩ := (HV1.out.pure HBX.out).at ja hjl
          have hm2 := HCJ.out.endB hjl
          have hmm : l[ja].name = fileN ∨ l[ja].name = freshN := by unfold isM at hm2; simpa using hm2
          have HNX := Lib.hid (HCJ.out.skipB hjl hm2)
          rcases hmm with hmm | hmm
          · have g3 : (x2.toList == [77, 65, 78, 73, 70, 69, 83, 84]) = true := by rw [ByteArray.toList_eq, f1, hmm]; rfl
            clear f1 f2 f3 hm2 hmm
            go_wp2_with fail
            go_round
            case rel => exact ⟨ja + 1, by go_num, HNX.out⟩
            case measure => simp [intOf]; omega
          · have g3 : (x2.toList == [77, 65, 78, 73, 70, 69, 83, 84]) = false := by rw [ByteArray.toList_eq, f1, hmm]; rfl
            have g4 : (x2.toList == [77, 65, 78, 73, 70, 69, 83, 84, 46, 110, 101, 119]) = true := by rw [ByteArray.toList_eq, f1, hmm]; rfl
            clear f1 f2 f3 hm2 hmm
            go_wp2_with fail
            go_round
            case rel => exact ⟨ja + 1, by go_num, HNX.out⟩
            case measure => simp [intOf]; omega
        · obtain rfl : ja = l.length := by omega
          go_wp2
          go_ret
          exact ⟨rfl, B1.out.trans (HBX.out.mono B1.out.size)⟩

end Go.Proofs.YtljmekdilhphaaaGreatDoor
