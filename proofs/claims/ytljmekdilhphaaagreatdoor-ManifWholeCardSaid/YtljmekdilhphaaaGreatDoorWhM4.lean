/- ManifWhole: what is read behind the crash. -/
import Derived.Test.YtljmekdilhphaaaGreatDoorWhT
import Derived.Deep.DeepCutAuto
namespace Go.Proofs.YtljmekdilhphaaaGreatDoor
open Go.RowKit Go.Maps Go.Sort

theorem IntsAt.pure {w w' : World} {sv : Value} {ks : List Int} (h : IntsAt w sv ks) (hb : Below w.heap.size w w') : IntsAt w' sv ks := h.kept (Fr.pure (S := fun _ => False) hb) (fun _ _ h => h)
theorem ints_lt {w : World} {sv : Value} {ks : List Int} (h : IntsAt w sv ks) (hk : ks ≠ []) {g : Nat} (e : sv.ownBlock = some g) : g < w.heap.size := by
  obtain ⟨a, c, rfl, _, h | ⟨b, o, rfl, h⟩⟩ := h
  · exact absurd h hk
  · cases e
    have h0 : 0 < ks.length := by cases ks; exact absurd rfl hk; simp
    exact ltOfCell (h 0 h0)
theorem OwnFiles.kept {S : Nat → Prop} {w w' : World} {v : Value} {l : Fs} (h : OwnFiles w v l) (hf : Fr S w w') (hs : ∀ g, v.ownBlock = some g → ¬ S g) : OwnFiles w' v l := hf.ownsRow h hs

set_option maxRecDepth 100000 in
set_option maxHeartbeats 8000000 in
theorem wh_mid4 (w : World) (p b : Nat) (l : Fs) (old : ByteArray) (oldL : List UInt8 × Int) (qHOLD : old.data.toList = oldL.1) (fo : Int) (qHFO : fo = oldL.2)
    (w2 : World) (qB2 : Below w.heap.size w w2) (st2 st3 : DkSt) (qHD2 : IsDk w2 p b st3) (ab : Option Addr) (cb : Nat) (qHV2 : FilesAt w2 (.slice ab l.length cb) l) (hll : l.length ≤ 64) (hsm : ∀ f ∈ l, f.firm.length + f.pend.length ≤ 1048576)
    (want : ByteArray) (wl : List UInt8) (qHW : want.data.toList = wl) (c : Int) (qHE : WhEnd l oldL wl c st2 st3 (dkRead st3 fileN)) (now : ByteArray) (hc : Int) (qN1 : now.data.toList = (dkRead st3 fileN).1) (qN2 : hc = (dkRead st3 fileN).2) {u0 u1 u2 u3 u4 u5 u6 u7 u8 u9 u10 u12 u16 u17 u19 u21 u22 u23 u24 u27 u28 u29 u30 u31 u32 u33 u34 u35 u36 u37 u38 u39 u40 u41 u42 u43 u44 u45 u46 u47 u48 u49 u50 u51 u52 u53 u54 u55 u56 u57 u58 u59 u60 u61 u62 u63 u64 u65 u66 u67 u68 u69 u70 u71 u72 u73 u74 u75 u76 u77 u78 u79 u80 u81 u82 u83 u84 u85 u86 u87 u88 u89 u90 u91 u92 u93 u94 u95 u96 u97 u98 u99 u100 u101 u102 u103 u104 u105 u106 u107 u108 u109 u110 u111 u112 u113 u114 u115 u116 u117 u118 u119 u120 u121 u122 u123 u124 u125 u126 u127 u128 u129 u130 u131 u132 u133 u134 u135 u136 u137 u138 u139 u140 u141 u142 u143 u144 u145 u146 u147 u148 u149 u150 u151 u152 u153 u154 u155 u156 u157 u158 u159 u160 u161 u162 u163 u164 u165 u166 u167 u168 u169 u170 u171 u172 u173 u174 u175 u176 u177 u178 u179 u180 u181 u182 u183 u184 u185 u186 u187 u188 u189 u190 u191 u192 u193 u194 u195 u196 u197 u198 u199 u200 u201 u202 u203 u204 u205 u206 u207 u208 u209 u210 u211 u212 u213 u214 u215 u216 u217 u218 u219 u220 u221 u222 u223 u224 u225 u226 u227 u228 u229 u230 u231 u232 u233 u234 u235 u236 u237 u238 u239 u240 u241 u242 u243 u244 u245 u246 u247 u248 u249 u250 u251 u252 u253 u254 u255 u256 u257 u258 u259 u260 u261 u262 u263 u264 u265 u266 u267 u268 u269 u270 u271 u272 u273 u274 u275 u276 u277 u278 u279 u280 u281 : Value} :
    Code.wp Tryz.prog (dropS 14 (Tryz.f6.body.getD .skip)) (bodyPost Tryz.prog Tryz.f6 fun e w' => e = .returned (.bool true) ∧ Below w.heap.size w w') { tmps := (List.toArray (u0 :: u1 :: u2 :: u3 :: u4 :: u5 :: u6 :: u7 :: u8 :: u9 :: u10 :: .pointer (some ⟨p, 0, none⟩) :: u12 :: .slice ab l.length cb :: .string old :: .int .i64 fo :: u16 :: u17 :: .string want :: u19 :: .int .i64 c :: u21 :: u22 :: u23 :: u24 :: .string now :: .int .i64 hc :: u27 :: u28 :: u29 :: u30 :: u31 :: u32 :: u33 :: u34 :: u35 :: u36 :: u37 :: u38 :: u39 :: u40 :: u41 :: u42 :: u43 :: u44 :: u45 :: u46 :: u47 :: u48 :: u49 :: u50 :: u51 :: u52 :: u53 :: u54 :: u55 :: u56 :: u57 :: u58 :: u59 :: u60 :: u61 :: u62 :: u63 :: u64 :: u65 :: u66 :: u67 :: u68 :: u69 :: u70 :: u71 :: u72 :: u73 :: u74 :: u75 :: u76 :: u77 :: u78 :: u79 :: u80 :: u81 :: u82 :: u83 :: u84 :: u85 :: u86 :: u87 :: u88 :: u89 :: u90 :: u91 :: u92 :: u93 :: u94 :: u95 :: u96 :: u97 :: u98 :: u99 :: u100 :: u101 :: u102 :: u103 :: u104 :: u105 :: u106 :: u107 :: u108 :: u109 :: u110 :: u111 :: u112 :: u113 :: u114 :: u115 :: u116 :: u117 :: u118 :: u119 :: u120 :: u121 :: u122 :: u123 :: u124 :: u125 :: u126 :: u127 :: u128 :: u129 :: u130 :: u131 :: u132 :: u133 :: u134 :: u135 :: u136 :: u137 :: u138 :: u139 :: u140 :: u141 :: u142 :: u143 :: u144 :: u145 :: u146 :: u147 :: u148 :: u149 :: u150 :: u151 :: u152 :: u153 :: u154 :: u155 :: u156 :: u157 :: u158 :: u159 :: u160 :: u161 :: u162 :: u163 :: u164 :: u165 :: u166 :: u167 :: u168 :: u169 :: u170 :: u171 :: u172 :: u173 :: u174 :: u175 :: u176 :: u177 :: u178 :: u179 :: u180 :: u181 :: u182 :: u183 :: u184 :: u185 :: u186 :: u187 :: u188 :: u189 :: u190 :: u191 :: u192 :: u193 :: u194 :: u195 :: u196 :: u197 :: u198 :: u199 :: u200 :: u201 :: u202 :: u203 :: u204 :: u205 :: u206 :: u207 :: u208 :: u209 :: u210 :: u211 :: u212 :: u213 :: u214 :: u215 :: u216 :: u217 :: u218 :: u219 :: u220 :: u221 :: u222 :: u223 :: u224 :: u225 :: u226 :: u227 :: u228 :: u229 :: u230 :: u231 :: u232 :: u233 :: u234 :: u235 :: u236 :: u237 :: u238 :: u239 :: u240 :: u241 :: u242 :: u243 :: u244 :: u245 :: u246 :: u247 :: u248 :: u249 :: u250 :: u251 :: u252 :: u253 :: u254 :: u255 :: u256 :: u257 :: u258 :: u259 :: u260 :: u261 :: u262 :: u263 :: u264 :: u265 :: u266 :: u267 :: u268 :: u269 :: u270 :: u271 :: u272 :: u273 :: u274 :: u275 :: u276 :: u277 :: u278 :: u279 :: u280 :: u281 :: [])), defers := [] } w2 := by
  have HOLD := Lib.hid qHOLD
  clear qHOLD
  have HFO := Lib.hid qHFO
  clear qHFO
  have B2 := Lib.hid qB2
  clear qB2
  have HD2 := Lib.hid qHD2
  clear qHD2
  have HV2 := Lib.hid qHV2
  clear qHV2
  have HW := Lib.hid qHW
  clear qHW
  have HE := Lib.hid qHE
  clear qHE
  have N1 := Lib.hid qN1
  clear qN1
  have N2 := Lib.hid qN2
  clear qN2
  have HSM := Lib.hid hsm
  clear hsm
  conv => arg 2; whnf
  obtain ⟨fr, hfr⟩ : ∃ fr : Bool, fr = ((hc == 0) && (now.toList == want.toList)) := ⟨_, rfl⟩
  have HFR := Lib.hid hfr
  clear hfr
  go_upto_region 26 with fail
  go_cut [27] (fun s wx => s = .bool fr ∧ w2 = wx)
  case first =>
    cases h1 : (hc == 0)
    · have e1 : fr = false := by rw [HFR.out, h1]; rfl
      subst e1
      as_aux_lemma =>
        go_wp2_with fail
        go_meet
        exact ⟨rfl, rfl⟩
    · cases h2 : (now.toList == want.toList)
      · have e1 : fr = false := by rw [HFR.out, h1, h2]; rfl
        subst e1
        as_aux_lemma =>
          go_wp2_with fail
          go_meet
          exact ⟨rfl, rfl⟩
      · have e1 : fr = true := by rw [HFR.out, h1, h2]; rfl
        subst e1
        as_aux_lemma =>
          go_wp2_with fail
          go_meet
          exact ⟨rfl, rfl⟩
  case rest =>
    obtain ⟨rfl, rfl⟩ := hcut
    go_upto_region 27 with fail
    go_cut [193] (fun s wx => s = .bool false ∧ w2 = wx)
    case first =>
      by_cases hz : c = 0
      · have e1 : fr = true := by
          obtain ⟨h1, h2⟩ := HE.out.fresh hz
          have h3 : hc = 0 := by rw [N2.out]; exact h1
          rw [HFR.out, h3, str_eq_true (N1.out.trans (h2.trans HW.out.symm))]; rfl
        have g1 : (c == 0) = true := by simp [hz]
        have g2 : (c != 0) = false := by simp [hz]
        subst e1
        clear hz
        as_aux_lemma =>
          go_wp2_with fail
          go_meet
          exact ⟨rfl, rfl⟩
      · have g1 : (c == 0) = false := by simpa using hz
        have g2 : (c != 0) = true := by simpa using hz
        have h1 := HE.out.stale hz
        have h2 : hc = fo := by rw [N2.out, HFO.out, h1]
        have g3 : (now.toList == old.toList) = true := str_eq_true (by rw [N1.out, HOLD.out, h1])
        have g4 : (now.toList != old.toList) = false := by unfold bne; rw [g3]; rfl
        have g5 : (hc == fo) = true := by simp [h2]
        have g6 : (hc != fo) = false := by unfold bne; rw [g5]; rfl
        clear hz h1 h2
        cases fr
        · cases g7 : (c == 45)
          · have g8 : (c != 45) = true := by unfold bne; rw [g7]; rfl
            as_aux_lemma =>
              go_wp2_with fail
              go_meet
              exact ⟨rfl, rfl⟩
          · have g8 : (c != 45) = false := by unfold bne; rw [g7]; rfl
            as_aux_lemma =>
              go_wp2_with fail
              go_meet
              exact ⟨rfl, rfl⟩
        · cases g7 : (c == 45)
          · have g8 : (c != 45) = true := by unfold bne; rw [g7]; rfl
            as_aux_lemma =>
              go_wp2_with fail
              go_meet
              exact ⟨rfl, rfl⟩
          · have g8 : (c != 45) = false := by unfold bne; rw [g7]; rfl
            as_aux_lemma =>
              go_wp2_with fail
              go_meet
              exact ⟨rfl, rfl⟩
    case rest =>
      obtain ⟨rfl, rfl⟩ := hcut
      go_upto_if 193 with fail
      go_cut [] (fun wx => w2 = wx)
      case first =>
        as_aux_lemma =>
          go_wp2_with fail
          go_meet
          exact rfl
      case rest =>
        subst hcut
        apply_assumption
        exact wh_tail w w2 B2.out p b st3 HD2.out l ab cb HV2.out HE.out.rest hll HSM.out

end Go.Proofs.YtljmekdilhphaaaGreatDoor
