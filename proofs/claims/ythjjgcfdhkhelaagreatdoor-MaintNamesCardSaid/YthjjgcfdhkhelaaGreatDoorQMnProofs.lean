/- The closed law MaintNames of the package souklaw29 returns true. Condition: the tables and the errors of the standard library lie as they are laid. -/
import Derived.Test.YthjjgcfdhkhelaaGreatDoorQBo
import Derived.Test.YthjjgcfdhkhelaaGreatDoorQAa
import Derived.Test.YthjjgcfdhkhelaaGreatDoorQAb
set_option maxRecDepth 100000
open Go.Proofs.Tryz
namespace Go.Proofs.YthjjgcfdhkhelaaGreatDoor
section
open Go.ChangeShapes Go.WideShapes Go.ChangeAt Go.RowKit
theorem Gm:Tryz.f3.params=#[]:=by kernel_rfl
theorem Gn {W:World}(hsh:W.ShapedOpen prog)(h:laidMetH prog Rows.maintNamesRow.laid W):vN W∧xB W∧uL W:=by
 rw[MakeChecks.laidMetH_plain _ _ _ (by kernel_rfl)]at h;obtain⟨ps,⟨_,_,_,_,_,_,_,_,_,_,⟨_,_,_,_,_,_,_,_,_,_,⟨g,t,cs,fuel,p,q,hg,ht,hv,hd,⟨_,_,_,_,_,_,_,_,_,_,⟨_,_,_,_,_,_,_,_,_,_,⟨g7,t7,cs7,f7,p7,q7,hg7,ht7,hv7,hd7,⟨g6,t6,cs6,f6,p6,q6,hg6,ht6,hv6,hd6,⟨g5,t5,cs5,f5,p5,q5,hg5,ht5,hv5,hd5,_⟩,_⟩,_⟩,_⟩,_⟩,_⟩,_⟩,_⟩,_,_⟩:=h;obtain rfl:=Option.some.inj ((show prog.globalNamed "internal/strconv.uint64pow10" = some 0 by kernel_rfl).symm.trans hg);obtain rfl:=Option.some.inj ((show(prog.globals[0]?).map (·.type)=some 404 by kernel_rfl).symm.trans ht);obtain rfl:=Option.some.inj ((show prog.globalNamed "strconv.ErrRange" = some 3 by kernel_rfl).symm.trans hg5);obtain rfl:=Option.some.inj ((show(prog.globals[3]?).map (·.type)=some 254 by kernel_rfl).symm.trans ht5);obtain rfl:=Option.some.inj ((show prog.globalNamed "strconv.ErrSyntax" = some 2 by kernel_rfl).symm.trans hg6);obtain rfl:=Option.some.inj ((show(prog.globals[2]?).map (·.type)=some 254 by kernel_rfl).symm.trans ht6);have hc:=Lib.cells_of_tab (zs:=Lib.pow10Tab) underlying404 underlying184 (by kernel_rfl) (by kernel_rfl) (show DataW.trod _ _ _ _ _ _ _ _ _=some (Lib.tabData .u64 Lib.pow10Tab,_)from hd);obtain rfl:=Option.some.inj ((show prog.globalNamed "souk/schema.kinds" = some 6 by kernel_rfl).symm.trans hg7);obtain rfl:=Option.some.inj ((show(prog.globals[6]?).map (·.type)=some 494 by kernel_rfl).symm.trans ht7);have hL:vN W:=by
  refine FW ?_ hsh (FV (by kernel_rfl) hv6 hd6) (FV (by kernel_rfl) hv5 hd5);unfold Pow Lib.TabIs;rw[hv,← hc]
 exact⟨hL,⟨hL.pow,hL.syn,hL.rng⟩,EU hv7 hd7⟩
theorem Gp (os:Os)(started:os.Started)(H:Type)(enc:TypeId×Value→H) :
  ReturnsInHanded {} Tryz.checked os 3 .any (λw args=>(Rows.maintNamesSpec.pre enc prog Tryz.f3 [] false w args∧laidMetH prog Rows.maintNamesRow.laid w)∧sizedMet enc prog Tryz.f3 (OpenSpec.ofChange Rows.maintNamesSpec) false w args)
   (Rows.maintNamesSpec.post enc prog Tryz.f3 false true false false):=by
 refine FR (C:=Tryz.checked) (X:=λw _=>laidMetH prog Rows.maintNamesRow.laid w) (λ_ _ _ hh h=>h.of_heap hh) FQ started (by kernel_rfl) func3
  (ChangeSpec.witness_shaped (enc:=enc) (C:=Tryz.checked) (os:=os) (X:=λw _=>laidMetH prog Rows.maintNamesRow.laid w) false (World.laidAll prog os Rows.maintNamesRow.laid) #[] 8 (World.laidAll_os _ _ _) (World.shaped_of_ZipB (by kernel_rfl) (by kernel_rfl)) (by kernel_rfl) (by kernel_rfl) (by kernel_rfl) (by rw[MakeChecks.laidMetH_plain _ _ _ (by kernel_rfl)];exact laidMet_laidAll _ (by kernel_rfl) (by kernel_rfl))) ?_
 intro W base args ds gs before _ hW _ _ hL hshape;have hW':=hW;obtain⟨p,q,hA0,hV,rfl,_,_⟩:=hW;have hA:DataW.TrodAll enc prog W 0 (λ_=>true) true Tryz.f3.params.toList args.toList ds p:=hA0;rw[Gm]at hA;obtain⟨rfl,rfl,rfl⟩:=trodAll_none hA;obtain⟨rfl,rfl⟩:=trodVars_none hV;refine(EJ W (Gn hshape hL).1 (Gn hshape hL).2.1 (Gn hshape hL).2.2).mono λe W' ⟨he,hb⟩=>?_;subst he;exact⟨_,rfl,_,_,_,[],_,[],hW',trodAll_mk1 (shut_bool underlying4 _),trodAll_mk0,rfl,hb.frame _,λh=>by cases h⟩
theorem Gq:joinedFacts Tryz.pinned.checked.prog 3 Tryz.f3 Rows.maintNamesSpec Rows.maintNamesRow=true:=
 EV (P:=Tryz.pinned.checked.prog) (f:=3) (fn:=Tryz.f3) (s:=Rows.maintNamesSpec) (c:=Rows.maintNamesRow) EW EX EY EZ E8 Fa Fb Fc Fd Fe Ff Fg Fh Fi Fj Fk Fl Fm Fo Fp Fq Fu Fv Fw Fx Fy Fz FC FD FE FG FH
theorem Gr:Rows.MaintNamesSaid:=
 OpenClaim.holds_of_wide 3 Tryz.f3 rfl rfl rfl rfl rfl rfl rfl ⟨rfl,rfl,rfl,rfl,rfl⟩ rfl rfl rfl rfl rfl FK func3 Gq FI FJ
  (λos started H enc _=>Gp os started H enc)
theorem maintNames_card:Rows.MaintNamesCardSaid:=
 Claim7.holds_tied_plain_at .later [] [.pinned,.data,.data,.data,.data,.data,.sentinel,.sentinel] true (true,"68f93889ce7d39776192ce6c15f10f06377167f0ddf2f2357846b995d410c74b") true Gr (λ_ h=>by cases h) FL (λ_ h=>by cases h) Gl rfl ⟨rfl,rfl⟩ (by kernel_rfl) rfl
  (λf fn hf hfn=>by
    obtain rfl:f=3:=Option.some.inj (maintNames_func.symm.trans hf) |>.symm;obtain rfl:fn=Tryz.f3:=(Option.some.inj (func3.symm.trans hfn)).symm;exact⟨FM,λj t ht=>by
     rw[Gm]at ht;simp at ht⟩)
  FP
end
end Go.Proofs.YthjjgcfdhkhelaaGreatDoor
#print axioms Go.Proofs.YthjjgcfdhkhelaaGreatDoor.maintNames_card
