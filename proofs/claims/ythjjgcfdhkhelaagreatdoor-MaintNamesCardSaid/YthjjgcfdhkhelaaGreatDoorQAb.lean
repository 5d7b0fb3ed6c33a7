/- The tie of MaintNames's row, its closed facts one by one. -/
import Derived.Test.YthjjgcfdhkhelaaGreatDoorRows
import Derived.LaidByTextLater
import Derived.SevenTiedAt
set_option maxRecDepth 100000
open Go.Proofs.Tryz
namespace Go.Proofs.YthjjgcfdhkhelaaGreatDoor
section
open Go
abbrev mnLaid:List (String×DataW Unit):=[("unicode/utf8.acceptRanges",Rows.laid_unicode_utf8_acceptRanges),("internal/strconv.uint64pow10",Rows.laid_internal_strconv_uint64pow10),("math/bits.deBruijn32tab",Rows.laid_math_bits_deBruijn32tab),("math/bits.deBruijn64tab",Rows.laid_math_bits_deBruijn64tab),("souk/schema.kinds",Rows.laid_souk_schema_kinds),("strconv.ErrSyntax",Rows.laid_strconv_ErrSyntax),("strconv.ErrRange",Rows.laid_strconv_ErrRange)]
theorem FX:Tryz.pinned.checked.prog.pinnedFits "unicode/utf8.first" = true:=by kernel_rfl
theorem FY:Tryz.pinned.checked.prog.headLifts.contains "ownunsafe" = false:=by kernel_rfl
theorem FZ:Tryz.pinned.checked.prog.listedFits (("unicode/utf8.first",Rows.laid_unicode_utf8_first)::mnLaid)=true:=by
 unfold Program.listedFits;rw[FY];kernel_rfl
theorem Ga:prog.worded (varsWordLater true)=true:=by kernel_rfl
theorem Gb:prog.worded (varsWordLater !true)=false:=by kernel_rfl
theorem Gc:prog.worded rootWordLater=true:=by kernel_rfl
theorem Gd:mnLaid.map (λx=>prog.kindOfLater x.1)=[LaidKind.data,.data,.data,.data,.data,.sentinel,.sentinel].map some:=by kernel_rfl
theorem Ge:(prog.funcNamed "gosem.cut.vars").isSome=true:=by kernel_rfl
theorem Gf:varsNamedLaterB prog (varsId prog) mnLaid=true:=by kernel_rfl
theorem Gg:∀os tape,varsDone prog 400 (varsId prog) os tape=true:=λ_ _=>by kernel_rfl
theorem Gh:∀os tape,(DataW.laidRun prog (varsWorld prog 400 (varsId prog) os tape).memory 8 (mnLaid.map (·.1))).map (·.1)=some mnLaid:=λ_ _=>by kernel_rfl
theorem Gi:∀os tape,(DataW.laidRun prog (varsWorld prog 400 (varsId prog) os tape).memory 8 (mnLaid.map (·.1))).map (λx=>decide x.2.Nodup && laidRowsB prog (varsWorld prog 400 (varsId prog) os tape).memory x.2)=some true:=λ_ _=>by kernel_rfl
theorem Gj:(mnLaid.all λx=>x.2.handleName?.isNone)=true:=by kernel_rfl
theorem Gk:prog.laidByTextLater mnLaid [.data,.data,.data,.data,.data,.sentinel,.sentinel] true:=
 Program.laidByTextLater_by_run 400 8 Ga Gb Gc Gd Ge Gf Gg Gh Gi Gj
theorem Gl:Rows.maintNamesRow.laidByTextAt .later Tryz.pinned [.pinned,.data,.data,.data,.data,.data,.sentinel,.sentinel] true:=
 OpenClaim.laidByTextAt_pinned rfl rfl Gk rfl rfl rfl rfl (λy hy _e=>by
  simp only[Rows.maintNamesRow,List.zip_cons_cons,List.zip_nil_right,List.mem_cons,List.mem_nil_iff,or_false]at hy
  rcases hy with rfl|rfl|rfl|rfl|rfl|rfl|rfl|rfl
  ·exact⟨FX,by kernel_rfl⟩
  ·cases _e
  ·cases _e
  ·cases _e
  ·cases _e
  ·cases _e
  ·cases _e
  ·cases _e) FZ
end
end Go.Proofs.YthjjgcfdhkhelaaGreatDoor
