/- The law StoreWhole of the package souklaw27 returns true: any capacity, all files, any number, any state, any projections, every cut and whatever is kept. Condition: the tables and the errors of the standard library lie as they are laid. -/
import Derived.Test.YtaeakdichkhjaaaGreatDoorQBt
import Derived.Test.YtaeakdichkhjaaaGreatDoorQBu
open Go.Lib(hid)
namespace Go.Proofs.YtaeakdichkhjaaaGreatDoor
section
open Go.ChangeShapes Go.WideShapes Go.ChangeAt Go.RowKit
theorem BR {W:World}(h:laidMetH Tryz.prog Rows.storeWholeRow.laid W):Libz W:=by
 rw[MakeChecks.laidMetH_plain _ _ _ (by kernel_rfl)]at h;obtain⟨ps,⟨_,_,_,_,_,_,_,_,_,_,⟨_,_,_,_,_,_,_,_,_,_,⟨g,t,cs,fuel,p,q,hg,ht,hv,hd,⟨_,_,_,_,_,_,_,_,_,_,⟨g5,t5,cs5,f5,p5,q5,hg5,ht5,hv5,hd5,⟨g6,t6,cs6,f6,p6,q6,hg6,ht6,hv6,hd6,_⟩,_⟩,_⟩,_⟩,_⟩,_⟩,_,_⟩:=h;obtain rfl:=Option.some.inj ((show Tryz.prog.globalNamed "internal/strconv.uint64pow10" = some 0 by kernel_rfl).symm.trans hg);obtain rfl:=Option.some.inj ((show(Tryz.prog.globals[0]?).map (·.type)=some 276 by kernel_rfl).symm.trans ht);obtain rfl:=Option.some.inj ((show Tryz.prog.globalNamed "strconv.ErrRange" = some 2 by kernel_rfl).symm.trans hg5);obtain rfl:=Option.some.inj ((show(Tryz.prog.globals[2]?).map (·.type)=some 135 by kernel_rfl).symm.trans ht5);obtain rfl:=Option.some.inj ((show Tryz.prog.globalNamed "strconv.ErrSyntax" = some 1 by kernel_rfl).symm.trans hg6);obtain rfl:=Option.some.inj ((show(Tryz.prog.globals[1]?).map (·.type)=some 135 by kernel_rfl).symm.trans ht6);have hc:=Lib.cells_of_tab (zs:=Lib.pow10Tab) Tryz.underlying276 Tryz.underlying124 (by kernel_rfl) (by kernel_rfl) (show DataW.trod _ _ _ _ _ _ _ _ _=some (Lib.tabData .u64 Lib.pow10Tab,_)from hd);refine⟨?_,AV (by kernel_rfl) hv6 hd6,AV (by kernel_rfl) hv5 hd5⟩;unfold Pow Lib.TabIs;rw[hv,← hc]
set_option maxRecDepth 100000 in
theorem BS (os:Os)(started:os.Started)(H:Type)(enc:TypeId×Value→H) :
  ReturnsInHanded {} Tryz.checked os 4 .any (λw args=>(Rows.storeWholeSpec.pre enc Tryz.prog Tryz.f4 [] false w args∧laidMetH Tryz.prog Rows.storeWholeRow.laid w)∧sizedMet enc Tryz.prog Tryz.f4 (OpenSpec.ofChange Rows.storeWholeSpec) false w args)
   (Rows.storeWholeSpec.post enc Tryz.prog Tryz.f4 false true false false):=by
 refine returnsInHanded_of_change_and (C:=Tryz.checked) (X:=λw _=>laidMetH Tryz.prog Rows.storeWholeRow.laid w) (λ_ _ _ hh h=>h.of_heap hh) AR started (by kernel_rfl) Tryz.func4
  (ChangeSpec.witness_shaped (enc:=enc) (C:=Tryz.checked) (os:=os) (X:=λw _=>laidMetH Tryz.prog Rows.storeWholeRow.laid w) false (World.laidAll Tryz.prog os Rows.storeWholeRow.laid) #[.int .i64 0,.slice none 0 0,.int .i64 0,.agg #[.int .i64 0,.int .i64 0,.int .i64 0,.int .i64 0,.slice none 0 0,.slice none 0 0,.slice none 0 0,.slice none 0 0,.slice none 0 0],.agg #[.slice none 0 0,.slice none 0 0,.slice none 0 0,.slice none 0 0],.int .i64 0,.slice none 0 0] 8 (World.laidAll_os _ _ _)
   (World.shaped_of_ZipB (by kernel_rfl) (by kernel_rfl)) (by kernel_rfl) (by kernel_rfl) (by kernel_rfl)
   (by rw[MakeChecks.laidMetH_plain _ _ _ (by kernel_rfl)];exact laidMet_laidAll _ (by kernel_rfl) (by kernel_rfl))) ?_
 intro W base args ds gs before hval0 hW _ hsz hL _;have hval:∀(j:Nat) t v,Tryz.f4.params[j]?=some t→args[j]?=some v→Value.okWide Tryz.prog W .any base t v:=hval0;have hW':=hW;obtain⟨p,q,hA0,hV,rfl,_,_⟩:=hW;have hA:DataW.TrodAll enc Tryz.prog W 0 (λ_=>true) true Tryz.f4.params.toList args.toList ds p:=hA0;rw[Tryz.params4]at hA hval;obtain⟨v0,v1,v2,v3,v4,v5,v6,d0,d1,d2,d3,d4,d5,d6,p0,p1,p2,p3,p4,p5,p6,rfl,rfl,rfl,h0,h1,h2,h3,h4,h5,h6⟩:=A9 hA;obtain⟨rfl,rfl⟩:=trodVars_none hV;have hlt:∀x∈p0++(p1++(p2++(p3++(p4++(p5++p6))))),x.block<W.heap.size:=λx hx=>by simpa using hW'.lt x (by simpa using hx)
 have hwt:∀(j:Nat) t d,([3,22,2,29,35,3,54]:List TypeId)[j]?=some t→([d0,d1,d2,d3,d4,d5,d6]:List (DataW H))[j]?=some d→∀n∈d.weights Tryz.prog t,n≤reachBytes:=by
  intro j t d ht hd n hn;have h9:=hsz;rw[Tryz.params4]at h9;exact of_decide_eq_true (List.all_eq_true.1 h9 n (DataW.weights_mem_each (j:=j) (t:=t) (d:=d) ht (by simpa using hd) n hn))
 have hargs0:∀(W':World),Below W.heap.size W W'→DataW.Trod enc Tryz.prog W' 0 (λb=>decide (b<W.heap.size)) true 3 v0 d0 p0:=
  λW' hn=>Below.trod Bc (by kernel_rfl) (of_decide_eq_true (by kernel_rfl)) h0 hn (λx hx=>hlt x (by simp[hx]))
 have hargs1:∀(W':World),Below W.heap.size W W'→DataW.Trod enc Tryz.prog W' 0 (λb=>decide (b<W.heap.size)) true 22 v1 d1 p1:=
  λW' hn=>Below.trod Bc (by kernel_rfl) (of_decide_eq_true (by kernel_rfl)) h1 hn (λx hx=>hlt x (by simp[hx]))
 have hargs2:∀(W':World),Below W.heap.size W W'→DataW.Trod enc Tryz.prog W' 0 (λb=>decide (b<W.heap.size)) true 2 v2 d2 p2:=
  λW' hn=>Below.trod Bc (by kernel_rfl) (of_decide_eq_true (by kernel_rfl)) h2 hn (λx hx=>hlt x (by simp[hx]))
 have hargs3:∀(W':World),Below W.heap.size W W'→DataW.Trod enc Tryz.prog W' 0 (λb=>decide (b<W.heap.size)) true 29 v3 d3 p3:=
  λW' hn=>Below.trod Bc (by kernel_rfl) (of_decide_eq_true (by kernel_rfl)) h3 hn (λx hx=>hlt x (by simp[hx]))
 have hargs4:∀(W':World),Below W.heap.size W W'→DataW.Trod enc Tryz.prog W' 0 (λb=>decide (b<W.heap.size)) true 35 v4 d4 p4:=
  λW' hn=>Below.trod Bc (by kernel_rfl) (of_decide_eq_true (by kernel_rfl)) h4 hn (λx hx=>hlt x (by simp[hx]))
 have hargs5:∀(W':World),Below W.heap.size W W'→DataW.Trod enc Tryz.prog W' 0 (λb=>decide (b<W.heap.size)) true 3 v5 d5 p5:=
  λW' hn=>Below.trod Bc (by kernel_rfl) (of_decide_eq_true (by kernel_rfl)) h5 hn (λx hx=>hlt x (by simp[hx]))
 have hargs6:∀(W':World),Below W.heap.size W W'→DataW.Trod enc Tryz.prog W' 0 (λb=>decide (b<W.heap.size)) true 54 v6 d6 p6:=
  λW' hn=>Below.trod Bc (by kernel_rfl) (of_decide_eq_true (by kernel_rfl)) h6 hn (λx hx=>hlt x (by simp[hx]))
 obtain⟨cp,rfl,_,_,wcp⟩:=open_int Tryz.underlying3 (hval 0 3 v0 rfl rfl) h0;obtain⟨cplo,cphi⟩ : -9223372036854775808≤cp∧cp≤9223372036854775807:=bounds_i64 wcp;obtain⟨l,hl,hnl,hsl⟩:=A5 (hval 1 22 v1 rfl rfl) h1 (hwt 1 _ _ rfl rfl);obtain⟨seq,rfl,_,_,wseq⟩:=open_int Tryz.underlying2 (hval 2 2 v2 rfl rfl) h2;obtain⟨seqlo,seqhi⟩ : -9223372036854775808≤seq∧seq≤9223372036854775807:=bounds_i64 wseq;obtain⟨s,sv,rfl,hs,his⟩:=yw (hval 3 29 v3 rfl rfl) h3 (hwt 3 _ _ rfl rfl);obtain⟨v,dv,rfl,hv,hiv⟩:=yy (hval 4 35 v4 rfl rfl) h4 (hwt 4 _ _ rfl rfl);obtain⟨cut,rfl,_,_,wcut⟩:=open_int Tryz.underlying3 (hval 5 3 v5 rfl rfl) h5;obtain⟨cutlo,cuthi⟩ : -9223372036854775808≤cut∧cut≤9223372036854775807:=bounds_i64 wcut;obtain⟨ks,hks,hnks⟩:=A4 (hval 6 54 v6 rfl rfl) h6;have hbks:∀j,v6.ownBlock=some j→j<W.heap.size:=λj e=>A2 Tryz.underlying54 (hval 6 54 v6 rfl rfl) e;have hreach:reachBytes<2 ^ 47:=reachBytes_lt;refine(AQ W (BR hL) cp v1 l hl (by omega) (λf hf=>by have:=hsl f hf;omega) cphi seq _ sv dv s v hs hv (λ_ h=>h) his hiv cut cutlo cuthi v6 ks hks (by unfold maxLen at hnks;omega) hbks).mono λe W' ⟨he,hb⟩=>?_;subst he;exact⟨_,rfl,_,_,_,[],_,[],hW',trodAll_mk1 (shut_bool Tryz.underlying4 _),Ba (hargs0 _ hb) (hargs1 _ hb) (hargs2 _ hb) (hargs3 _ hb) (hargs4 _ hb) (hargs5 _ hb) (hargs6 _ hb),rfl,hb.frame _,λh=>by cases h⟩
set_option maxRecDepth 100000 in
theorem BT:joinedFacts Tryz.pinned.checked.prog 4 Tryz.f4 Rows.storeWholeSpec Rows.storeWholeRow=true:=
 Bb (P:=Tryz.pinned.checked.prog) (f:=4) (fn:=Tryz.f4) (s:=Rows.storeWholeSpec) (c:=Rows.storeWholeRow) Bd Be Bf Bg Bh Bi Bj Bk Bl Bm Bn Bo Bp Bq Br Bs Bt Bu Bv Bw Bx Bz BA BB BC BD BE BF BG BH BI BJ
theorem BU:Rows.StoreWholeSaid:=
 OpenClaim.holds_of_wide 4 Tryz.f4 rfl rfl rfl rfl rfl rfl rfl ⟨rfl,rfl,rfl,rfl,rfl⟩ rfl rfl rfl rfl rfl BM Tryz.func4 BT BK BL
  (λos started H enc _=>BS os started H enc)
theorem storeWhole_card:Rows.StoreWholeCardSaid:=
 Claim7.holds_tied_plain_at .later [] [.data,.data,.data,.data,.sentinel,.sentinel,.pinned] true (true,"100d26905bc959f4a533b59b55353b10c4c247f5009342b61ad6eb94f9687280") true BU (λ_ h=>by cases h) BN (λ_ h=>by cases h) storeWhole_row_tie rfl ⟨rfl,rfl⟩ (by kernel_rfl) rfl
  (λf fn hf hfn=>by
   obtain rfl:f=4:=Option.some.inj (storeWhole_func.symm.trans hf) |>.symm;obtain rfl:fn=Tryz.f4:=(Option.some.inj (Tryz.func4.symm.trans hfn)).symm;exact⟨BO,λj t ht=>by
    rw[Tryz.params4]at ht;have hm:t∈[3,22,2,29,35,3,54]:=by simpa using Array.mem_of_getElem? ht
    have hall:([3,22,2,29,35,3,54].all λu=>!Tryz.prog.wantsStandIn u)=true:=by kernel_rfl
    exact(show Tryz.prog.wantsStandIn t=false by simpa using List.all_eq_true.1 hall t hm)⟩)
  BP
end
end Go.Proofs.YtaeakdichkhjaaaGreatDoor
#print axioms Go.Proofs.YtaeakdichkhjaaaGreatDoor.storeWhole_card
