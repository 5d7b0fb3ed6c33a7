/- The law StoreNewest of the package souklaw27 returns true: any files, any bounds, any number, any state, any projections. Condition: the tables and the errors of the standard library lie as they are laid. -/
import Derived.Test.YtaeakdichkhjaaaGreatDoorQBo
import Derived.Test.YtaeakdichkhjaaaGreatDoorQBp
open Go.Lib(hid)
namespace Go.Proofs.YtaeakdichkhjaaaGreatDoor
section
open Go.ChangeShapes Go.WideShapes Go.ChangeAt Go.RowKit
theorem Ak {W:World}(h:laidMetH Tryz.prog Rows.storeNewestRow.laid W):Libz W:=by
 rw[MakeChecks.laidMetH_plain _ _ _ (by kernel_rfl)]at h;obtain⟨ps,⟨_,_,_,_,_,_,_,_,_,_,⟨_,_,_,_,_,_,_,_,_,_,⟨g,t,cs,fuel,p,q,hg,ht,hv,hd,⟨_,_,_,_,_,_,_,_,_,_,⟨g5,t5,cs5,f5,p5,q5,hg5,ht5,hv5,hd5,⟨g6,t6,cs6,f6,p6,q6,hg6,ht6,hv6,hd6,_⟩,_⟩,_⟩,_⟩,_⟩,_⟩,_,_⟩:=h;obtain rfl:=Option.some.inj ((show Tryz.prog.globalNamed "internal/strconv.uint64pow10" = some 0 by kernel_rfl).symm.trans hg);obtain rfl:=Option.some.inj ((show(Tryz.prog.globals[0]?).map (·.type)=some 276 by kernel_rfl).symm.trans ht);obtain rfl:=Option.some.inj ((show Tryz.prog.globalNamed "strconv.ErrRange" = some 2 by kernel_rfl).symm.trans hg5);obtain rfl:=Option.some.inj ((show(Tryz.prog.globals[2]?).map (·.type)=some 135 by kernel_rfl).symm.trans ht5);obtain rfl:=Option.some.inj ((show Tryz.prog.globalNamed "strconv.ErrSyntax" = some 1 by kernel_rfl).symm.trans hg6);obtain rfl:=Option.some.inj ((show(Tryz.prog.globals[1]?).map (·.type)=some 135 by kernel_rfl).symm.trans ht6);have hc:=Lib.cells_of_tab (zs:=Lib.pow10Tab) Tryz.underlying276 Tryz.underlying124 (by kernel_rfl) (by kernel_rfl) (show DataW.trod _ _ _ _ _ _ _ _ _=some (Lib.tabData .u64 Lib.pow10Tab,_)from hd);refine⟨?_,zg (by kernel_rfl) hv6 hd6,zg (by kernel_rfl) hv5 hd5⟩;unfold Pow Lib.TabIs;rw[hv,← hc]
set_option maxRecDepth 100000 in
theorem Al (os:Os)(started:os.Started)(H:Type)(enc:TypeId×Value→H) :
  ReturnsInHanded {} Tryz.checked os 3 .any (λw args=>(Rows.storeNewestSpec.pre enc Tryz.prog Tryz.f3 [] false w args∧laidMetH Tryz.prog Rows.storeNewestRow.laid w)∧sizedMet enc Tryz.prog Tryz.f3 (OpenSpec.ofChange Rows.storeNewestSpec) false w args)
   (Rows.storeNewestSpec.post enc Tryz.prog Tryz.f3 false true false false):=by
 refine returnsInHanded_of_change_and (C:=Tryz.checked) (X:=λw _=>laidMetH Tryz.prog Rows.storeNewestRow.laid w) (λ_ _ _ hh h=>h.of_heap hh) zd started (by kernel_rfl) Tryz.func3
  (ChangeSpec.witness_shaped (enc:=enc) (C:=Tryz.checked) (os:=os) (X:=λw _=>laidMetH Tryz.prog Rows.storeNewestRow.laid w) false (World.laidAll Tryz.prog os Rows.storeNewestRow.laid) #[.slice none 0 0,.int .i64 0,.int .i64 0,.int .i64 0,.agg #[.int .i64 0,.int .i64 0,.int .i64 0,.int .i64 0,.slice none 0 0,.slice none 0 0,.slice none 0 0,.slice none 0 0,.slice none 0 0],.agg #[.slice none 0 0,.slice none 0 0,.slice none 0 0,.slice none 0 0]] 8 (World.laidAll_os _ _ _)
   (World.shaped_of_ZipB (by kernel_rfl) (by kernel_rfl)) (by kernel_rfl) (by kernel_rfl) (by kernel_rfl)
   (by rw[MakeChecks.laidMetH_plain _ _ _ (by kernel_rfl)];exact laidMet_laidAll _ (by kernel_rfl) (by kernel_rfl))) ?_
 intro W base args ds gs before hval0 hW _ hsz hL _;have hval:∀(j:Nat) t v,Tryz.f3.params[j]?=some t→args[j]?=some v→Value.okWide Tryz.prog W .any base t v:=hval0;have hW':=hW;obtain⟨p,q,hA0,hV,rfl,_,_⟩:=hW;have hA:DataW.TrodAll enc Tryz.prog W 0 (λ_=>true) true Tryz.f3.params.toList args.toList ds p:=hA0;rw[Tryz.params3]at hA hval;obtain⟨v0,v1,v2,v3,v4,v5,d0,d1,d2,d3,d4,d5,p0,p1,p2,p3,p4,p5,rfl,rfl,rfl,h0,h1,h2,h3,h4,h5⟩:=zr hA;obtain⟨rfl,rfl⟩:=trodVars_none hV;have hlt:∀x∈p0++(p1++(p2++(p3++(p4++p5)))),x.block<W.heap.size:=λx hx=>by simpa using hW'.lt x (by simpa using hx)
 have hwt:∀(j:Nat) t d,([22,2,2,2,29,35]:List TypeId)[j]?=some t→([d0,d1,d2,d3,d4,d5]:List (DataW H))[j]?=some d→∀n∈d.weights Tryz.prog t,n≤reachBytes:=by
  intro j t d ht hd n hn;have h9:=hsz;rw[Tryz.params3]at h9;exact of_decide_eq_true (List.all_eq_true.1 h9 n (DataW.weights_mem_each (j:=j) (t:=t) (d:=d) ht (by simpa using hd) n hn))
 have hargs0:∀(W':World),Below W.heap.size W W'→DataW.Trod enc Tryz.prog W' 0 (λb=>decide (b<W.heap.size)) true 22 v0 d0 p0:=
  λW' hn=>Below.trod zv (by kernel_rfl) (of_decide_eq_true (by kernel_rfl)) h0 hn (λx hx=>hlt x (by simp[hx]))
 have hargs1:∀(W':World),Below W.heap.size W W'→DataW.Trod enc Tryz.prog W' 0 (λb=>decide (b<W.heap.size)) true 2 v1 d1 p1:=
  λW' hn=>Below.trod zv (by kernel_rfl) (of_decide_eq_true (by kernel_rfl)) h1 hn (λx hx=>hlt x (by simp[hx]))
 have hargs2:∀(W':World),Below W.heap.size W W'→DataW.Trod enc Tryz.prog W' 0 (λb=>decide (b<W.heap.size)) true 2 v2 d2 p2:=
  λW' hn=>Below.trod zv (by kernel_rfl) (of_decide_eq_true (by kernel_rfl)) h2 hn (λx hx=>hlt x (by simp[hx]))
 have hargs3:∀(W':World),Below W.heap.size W W'→DataW.Trod enc Tryz.prog W' 0 (λb=>decide (b<W.heap.size)) true 2 v3 d3 p3:=
  λW' hn=>Below.trod zv (by kernel_rfl) (of_decide_eq_true (by kernel_rfl)) h3 hn (λx hx=>hlt x (by simp[hx]))
 have hargs4:∀(W':World),Below W.heap.size W W'→DataW.Trod enc Tryz.prog W' 0 (λb=>decide (b<W.heap.size)) true 29 v4 d4 p4:=
  λW' hn=>Below.trod zv (by kernel_rfl) (of_decide_eq_true (by kernel_rfl)) h4 hn (λx hx=>hlt x (by simp[hx]))
 have hargs5:∀(W':World),Below W.heap.size W W'→DataW.Trod enc Tryz.prog W' 0 (λb=>decide (b<W.heap.size)) true 35 v5 d5 p5:=
  λW' hn=>Below.trod zv (by kernel_rfl) (of_decide_eq_true (by kernel_rfl)) h5 hn (λx hx=>hlt x (by simp[hx]))
 obtain⟨l,hl,hnl,hsl⟩:=zq (hval 0 22 v0 rfl rfl) h0 (hwt 0 _ _ rfl rfl);obtain⟨first,rfl,_,_,wfirst⟩:=open_int Tryz.underlying2 (hval 1 2 v1 rfl rfl) h1;obtain⟨firstlo,firsthi⟩ : -9223372036854775808≤first∧first≤9223372036854775807:=bounds_i64 wfirst;obtain⟨next,rfl,_,_,wnext⟩:=open_int Tryz.underlying2 (hval 2 2 v2 rfl rfl) h2;obtain⟨nextlo,nexthi⟩ : -9223372036854775808≤next∧next≤9223372036854775807:=bounds_i64 wnext;obtain⟨seq,rfl,_,_,wseq⟩:=open_int Tryz.underlying2 (hval 3 2 v3 rfl rfl) h3;obtain⟨seqlo,seqhi⟩ : -9223372036854775808≤seq∧seq≤9223372036854775807:=bounds_i64 wseq;obtain⟨s,sv,rfl,hs,his⟩:=wm (hval 4 29 v4 rfl rfl) h4 (hwt 4 _ _ rfl rfl);obtain⟨v,dv,rfl,hv,hiv⟩:=wo (hval 5 35 v5 rfl rfl) h5 (hwt 5 _ _ rfl rfl);have hreach:reachBytes<2 ^ 47:=reachBytes_lt;refine(zc W (Ak hL) v0 l hl (by omega) (λf hf=>by have:=hsl f hf;omega) first next seq _ sv dv s v hs hv (λ_ h=>h) his hiv).mono λe W' ⟨he,hb⟩=>?_;subst he;exact⟨_,rfl,_,_,_,[],_,[],hW',trodAll_mk1 (shut_bool Tryz.underlying4 _),zt (hargs0 _ hb) (hargs1 _ hb) (hargs2 _ hb) (hargs3 _ hb) (hargs4 _ hb) (hargs5 _ hb),rfl,hb.frame _,λh=>by cases h⟩
set_option maxRecDepth 100000 in
theorem Am:joinedFacts Tryz.pinned.checked.prog 3 Tryz.f3 Rows.storeNewestSpec Rows.storeNewestRow=true:=
 zu (P:=Tryz.pinned.checked.prog) (f:=3) (fn:=Tryz.f3) (s:=Rows.storeNewestSpec) (c:=Rows.storeNewestRow) zw zx zy zz zA zB zD zE zF zG zH zI zJ zK zL zM zN zO zP zQ zR zS zT zU zW zX zY zZ Aa Ab Ac Ad
theorem Ao:Rows.StoreNewestSaid:=
 OpenClaim.holds_of_wide 3 Tryz.f3 rfl rfl rfl rfl rfl rfl rfl ⟨rfl,rfl,rfl,rfl,rfl⟩ rfl rfl rfl rfl rfl Ag Tryz.func3 Am Ae Af
  (λos started H enc _=>Al os started H enc)
theorem storeNewest_card:Rows.StoreNewestCardSaid:=
 Claim7.holds_tied_plain_at .later [] [.data,.data,.data,.data,.sentinel,.sentinel,.pinned] true (true,"100d26905bc959f4a533b59b55353b10c4c247f5009342b61ad6eb94f9687280") true Ao (λ_ h=>by cases h) Ah (λ_ h=>by cases h) storeNewest_row_tie rfl ⟨rfl,rfl⟩ (by kernel_rfl) rfl
  (λf fn hf hfn=>by
   obtain rfl:f=3:=Option.some.inj (storeNewest_func.symm.trans hf) |>.symm;obtain rfl:fn=Tryz.f3:=(Option.some.inj (Tryz.func3.symm.trans hfn)).symm;exact⟨Ai,λj t ht=>by
    rw[Tryz.params3]at ht;have hm:t∈[22,2,2,2,29,35]:=by simpa using Array.mem_of_getElem? ht
    have hall:([22,2,2,2,29,35].all λu=>!Tryz.prog.wantsStandIn u)=true:=by kernel_rfl
    exact(show Tryz.prog.wantsStandIn t=false by simpa using List.all_eq_true.1 hall t hm)⟩)
  Aj
end
end Go.Proofs.YtaeakdichkhjaaaGreatDoor
#print axioms Go.Proofs.YtaeakdichkhjaaaGreatDoor.storeNewest_card
