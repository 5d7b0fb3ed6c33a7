/- The walks of snap.many over lists, by whatever closure that writes each one. -/
import Derived.Deep.RegionWith
import Derived.Deep.RegionHeld3
import Derived.Test.YtaeakdichkhjaaaGreatDoorQAk
import Derived.Test.YtaeakdichkhjaaaGreatDoorQAh
import Derived.Test.YtaeakdichkhjaaaGreatDoorQAg
set_option maxHeartbeats 2000000
open Go.Lib(hid)
namespace Go.Proofs.YtaeakdichkhjaaaGreatDoor
section
open Go.RowKit
section
variable {P:Program} {ops:Array Oper} {Q:Exit→Act→World→Prop} {md:Region.Mode} {S:World→Prop}
theorem tk (i:Nat){oi:Oper}{v:Value}{fuel:Nat}{listed:Array Bool}{a:Act}{w:World}
  (hi:ops[i]?=some oi:=by first|(simp only[List.getElem?_toArray,List.getElem?_cons_succ,List.getElem?_cons_zero];rfl)|(simp only[List.getElem?_toArray,List.getElem?_cons_zero];rfl))
  (hs:Region.noSelect ops=true:=by kernel_rfl) (hf:Region.free md ops listed i=true:=by kernel_rfl) (hr:(Region.ready md ops listed).contains i=true:=by kernel_rfl)
  (hQ:∀c a w,Q (.panic c) (a.put oi.dst v) w→Q (.panic c) a w:=by exact λ_ _ _ h=>h)
  (hy:YieldsIf P ops S oi v a:=by exact Or.inl ⟨by rfl,by(intro w hSw;(try dsimp only at hSw);go_simp;try with_reducible rfl)⟩) (hS:S w:=by assumption)
  (h:wpAnyH P md ops Q S fuel (listed.setIfInBounds i true) (a.put oi.dst v) w):wpAnyH P md ops Q S (fuel+1) listed a w:=wpAnyH_take hi hs hf hr hQ hy hS h
theorem rdy (i:Nat){o:Oper}{fuel:Nat}{listed:Array Bool}{a:Act}{w:World}(hr:Region.ready md ops listed=[i]:=by kernel_rfl)
  (hi:ops[i]?=some o:=by first|(simp only[List.getElem?_toArray,List.getElem?_cons_succ,List.getElem?_cons_zero];rfl)|(simp only[List.getElem?_toArray,List.getElem?_cons_zero];rfl))
  (h:∀K':Act→World→Prop,Shut (∀a w,S w→(S w→wpAnyH P md ops Q S fuel (listed.setIfInBounds i true) a w)→K' a w)→if Region.wanted o (yielded ops a.tmps)=true then Oper.wp P o a w K' Q else K' (a.put o.dst undef) w) :
  wpAnyH P md ops Q S (fuel+1) listed a w:=wpAnyH_ready hr (by simp) (AllReadyH.cons hi h AllReadyH.nil)
end
end
section
open Go.RowKit
set_option maxRecDepth 100000 in
theorem oy (w:World)(q p:Nat)(s:ByteArray)(r:RS)(h:RrAt w q p s r)(B0:Nat)(hc:w.cell? ⟨B0,0,none⟩=some (.pointer (some ⟨q,0,none⟩)))(hB:B0≠p∧B0≠q) :
  Calls Tryz.prog 142 #[.pointer (some ⟨B0,0,none⟩)] w λe w'=>e = .returned (ml s.data.toList r).1.agg∧RrTo w w' q p s (ml s.data.toList r).2:=by
 obtain⟨n,hn⟩:∃n,n=w.heap.size:=⟨_,rfl⟩;obtain⟨W0,hW0⟩:∃W0,W0=w.alloc (.cells #[.string ⟨#[]⟩,.bool false] 70):=⟨_,rfl⟩;have hb0:Below w.heap.size w W0:=by rw[hW0];exact ke _ _
 have k0:W0.heap[n]?=some (.cells #[.string ⟨#[]⟩,.bool false] 70 (0,0)):=by rw[hW0,hn];exact heap_alloc_new _ _
 have hBl:=aA hc;have hql:=lt_of_block h.cell;have hpl:=h.rd.lt;obtain⟨e0,e1,e2⟩:=h.cs;have HB0:=hid hb0;have K0:=hid k0;have H0:=hid (h.pure hb0);have hbn:B0≠n:=by omega
 have hqn:q≠n:=by omega
 have hpn:p≠n:=by omega
 have c0:=(hb0.cell (p:=⟨B0,0,none⟩) hBl).trans hc;have HBB:=hid hB;have HT:=hid (mZ W0 q p s r H0.out);unfold ml AccD.agg;obtain⟨⟨nm,r1⟩,hR1⟩:∃R,R=r.text s.data.toList:=⟨_,rfl⟩;rw[← hR1]at HT ⊢;dsimp only at HT ⊢;obtain⟨⟨b,r2⟩,hR2⟩:∃R,R=r1.yes s.data.toList:=⟨_,rfl⟩;have HY:=hid (λW (h:RrAt W q p s r1)=>mX W q p s r1 h);rw[← hR2]at HY ⊢;dsimp only at HY ⊢;have HQ:=hid (show q<n∧p<n∧B0<n from by omega);clear hb0 k0 h hR1 hR2 hB;subst hn
 go_enter Tryz.func142,Tryz.ntmps142
 go_wp2_with fail
 try rw[← hW0]
 refine HT.out.mono ?_;rintro e w1 ⟨⟨x,hx,rfl⟩,h1,hf1⟩;obtain rfl:x=⟨nm.toArray⟩:=aq (by simpa using hx);have k1:=hf1.heapAt K0.out (λe=>by rcases e with e|e;exact hpn e.symm;exact hqn e.symm);have z0:=frozen_of_row _ w.heap.size 0 _ _ k1;have z1:=frozen_of_row _ w.heap.size 1 _ _ k1;have d0:w1.cell? ⟨w.heap.size,0,none⟩=some (.string ⟨#[]⟩):=(cell_of_row _ _ _ _ _ _ k1).trans rfl;have d1:w1.cell? ⟨w.heap.size,1,none⟩=some (.bool false):=(cell_of_row _ _ _ _ _ _ k1).trans rfl;have cb:=hf1.cellAt c0 (λe=>by rcases e with e|e;exact HBB.out.1 e;exact HBB.out.2 e);obtain⟨W1,hW1⟩:∃W1,W1=w1.setCell ⟨w.heap.size,0,none⟩ (.string ⟨nm.toArray⟩):=⟨_,rfl⟩;have fs:Fr (λk=>k=w.heap.size) w1 W1:=by rw[hW1];exact(Fr.refl (λk=>k=w.heap.size) w1).setCell ⟨w.heap.size,0,none⟩ (λ_=>rfl) _
 have k2:W1.heap[w.heap.size]?=some (.cells #[.string ⟨nm.toArray⟩,.bool false] 70 (0,0)):=by rw[hW1];exact heap_setCell_same _ _ _ _ _ _ k1
 have H1:=hid (h1.kept fs hqn hpn);have HYY:=hid (HY.out W1 H1.out);have HF1:=hid hf1;have FS:=hid fs;have K2:=hid k2;clear hf1 h1 fs k1 k2 hx c0 hc e0 e1 e2 hBl hql hpl
 go_wp2_with fail
 rw[← hW1];clear hW1 d0 d1 z0 z1 cb;refine HYY.out.mono ?_;rintro e w2 ⟨rfl,h2,hf2⟩;have k3:=hf2.heapAt K2.out (λe=>by rcases e with e|e;exact hpn e.symm;exact hqn e.symm);have z0:=frozen_of_row _ w.heap.size 0 _ _ k3;have z1:=frozen_of_row _ w.heap.size 1 _ _ k3;have d0:w2.cell? ⟨w.heap.size,0,none⟩=some (.string ⟨nm.toArray⟩):=(cell_of_row _ _ _ _ _ _ k3).trans rfl;have d1:w2.cell? ⟨w.heap.size,1,none⟩=some (.bool false):=(cell_of_row _ _ _ _ _ _ k3).trans rfl;have HF2:=hid hf2;have H2:=hid h2;obtain⟨W3,hW3⟩:∃W3,W3=((w2.setCell ⟨w.heap.size,1,none⟩ (.bool b)).setCell ⟨w.heap.size,0,none⟩ (.string ⟨nm.toArray⟩)).setCell ⟨w.heap.size,1,none⟩ (.bool b):=⟨_,rfl⟩;have k4:W3.heap[w.heap.size]?=some (.cells #[.string ⟨nm.toArray⟩,.bool b] 70 (0,0)):=by rw[hW3];exact heap_setCell_same _ _ _ _ _ _ (heap_setCell_same _ _ _ _ _ _ (heap_setCell_same _ _ _ _ _ _ k3))
 have f3:Fr (λk=>k=w.heap.size) w2 W3:=by rw[hW3];exact(((Fr.refl (λk=>k=w.heap.size) w2).setCell ⟨w.heap.size,1,none⟩ (λ_=>rfl) _).setCell ⟨w.heap.size,0,none⟩ (λ_=>rfl) _).setCell ⟨w.heap.size,1,none⟩ (λ_=>rfl) _
 have HK4:=hid k4;have HF3:=hid f3;have HW3:=hid hW3;clear h2 hf2 k3 k4 f3 hW3;go_wp2;rw[← HW3.out];have g0:W3.cell? ⟨w.heap.size,0,none⟩=some (.string ⟨nm.toArray⟩):=(cell_of_row _ _ _ _ _ _ HK4.out).trans rfl;have g1:W3.cell? ⟨w.heap.size,1,none⟩=some (.bool b):=(cell_of_row _ _ _ _ _ _ HK4.out).trans rfl;refine bodyPost_ret (v:=.agg #[.string ⟨nm.toArray⟩,.bool b]) (by simp[results,Tryz.results142,go_sem,g0,g1]) rfl ?_;exact⟨rfl,H2.out.kept HF3.out hqn hpn,((((Fr.pure HB0.out).then HF1.out (λ_ _ e=>e)).then FS.out (λi hi e=>by omega)).then HF2.out (λ_ _ e=>e)).then HF3.out (λi hi e=>by omega)⟩
theorem oA {α β:Type}(f:α→List β)(l:List α)(k:Nat)(h:k<l.length):(l.take (k+1)).flatMap f=(l.take k).flatMap f++f l[k]:=by
 rw[List.take_succ_eq_append_getElem h,List.flatMap_append];simp
theorem oB {α β:Type}(f:α→List β)(l:List α)(k:Nat):((l.take k).flatMap f).length≤(l.flatMap f).length:=by
 conv=>rhs;rw[← List.take_append_drop k l,List.flatMap_append,List.length_append]
 omega
theorem oC {n:Nat}(h:n<18446744073709551616):IntKind.u64.wrap (n:Int)=(n:Int):=by rw[IntKind.wrap_u64];omega
set_option maxRecDepth 100000 in
theorem oD (F:Nat→Prop)(w:World)(p:Nat)(v:Value)(L:List UInt8)(hw:IsWr w p v L)(sv:Value)(xs:List AccD)(hx:AccsAt F w sv xs)(hF:∀g,F g→g≠p∧v.ownBlock≠some g)(hlen:xs.length≤4398046511104)(fk:FuncId)(c1:Value)(hent:Enters Tryz.prog fk)(f:AccD→List UInt8)
  (hL:L.length+(lS f xs).length≤1000000)
  (hcall:∀(W:World) (v1:Value) (L1:List UInt8) (k:Nat) (hk:k<xs.length),WrTo p w W v v1 L1→L1.length+(f xs[k]).length≤1000000→Calls Tryz.prog fk #[xs[k].agg,c1] W λe w'=>e = .returned (.tuple #[])∧∃v',WrTo p W w' v1 v' (L1++f xs[k])) :
  Calls Tryz.prog 172 #[.pointer (some ⟨p,0,none⟩),sv,.func (.func fk) #[] #[c1]] w λe w'=>e = .returned (.tuple #[])∧∃v',WrTo p w w' v v' (L++lS f xs):=by
 obtain⟨a,c,rfl⟩:=hx.shape;have HX:=hid hx;have HC:=hid hcall;have HFF:=hid hF;have HLL:=hid hL;have H:=hid hw;have hu:=oC (n:=xs.length) (by omega);have HS:=hid (ia xs.length p v L w (by omega) hw (by omega));have ent:∀(args:Array Value) (w:World),(callFunc fk args).run Tryz.prog w = .ok (.enter fk args) w:=hent;clear hx hcall hent hw hF hL
 go_enter Tryz.func172,Tryz.ntmps172
 go_wp2_with fail
 try rw[hu]
 refine HS.out.mono ?_;rintro e w1 ⟨rfl,v1,h1⟩;have H1:=hid h1;clear h1 hu;go_wp2
 go_loopw [15] (λi wr=>∃(k:Nat) (v2:Value),i = .int .i64 k∧k≤xs.length∧Hid (WrTo p w wr v v2 (L++(bB xs.length++(xs.take k).flatMap f)))) (λi _=>xs.length-(intOf i).toNat)
 case atStart=>exact⟨0,v1,rfl,by omega,hid (by simpa using H1.out)⟩
 case round=>
  obtain⟨k,v2,rfl,hk,HW⟩:=hrel;by_cases hlt:k<xs.length
  ·obtain⟨b,o,rfl,hF1,hbl,h0,h1⟩:=AccD.at (HX.out.kept HW.out.fr (λg hg e=>by rcases e with e|e;exact(HFF.out g hg).1 e;exact(HFF.out g hg).2 e)) k hlt
   have HW2:=hid (HW.out.alloc (.cells #[.string ⟨xs[k].name.toArray⟩,.bool xs[k].opn] 70));have HST:=hid (oA f xs k hlt);have HLN:=hid (show(L++(bB xs.length++(xs.take k).flatMap f)).length+(f xs[k]).length≤1000000 from by
    have h9:=HLL.out;have h8:=oB f xs (k+1);rw[HST.out]at h8;unfold lS at h9;simp only[List.length_append]at h8 h9 ⊢;omega)
   have HCALL:=hid (HC.out _ v2 _ k hlt HW2.out HLN.out);unfold AccD.agg at HCALL;clear hF1
   go_wp2_with fail
   refine HCALL.out.mono ?_;rintro e w3 ⟨rfl,v3,h3⟩;have H3:=hid (show WrTo p w w3 v v3 (L++(bB xs.length++(xs.take (k+1)).flatMap f))from by
    have:=HW2.out.trans h3;rw[HST.out];simpa[List.append_assoc]using this)
   clear h3;go_wp2
   go_roundw
   case rel=>exact⟨k+1,v3,by go_num,by omega,H3⟩
   case measure=>simp[intOf];omega
  ·have hkl:k=xs.length:=by omega
   have HE:=hid (show WrTo p w wr v v2 (L++lS f xs)from by have:=HW.out;rw[hkl,List.take_length]at this;exact this);go_wp2
   go_end0
   exact⟨rfl,v2,HE.out⟩
set_option maxRecDepth 100000 in
theorem oE (F:Nat→Prop)(w:World)(p:Nat)(v:Value)(L:List UInt8)(hw:IsWr w p v L)(sv:Value)(xs:List InsD)(hx:InssAt F w sv xs)(hF:∀g,F g→g≠p∧v.ownBlock≠some g)(hlen:xs.length≤4398046511104)(fk:FuncId)(c1:Value)(hent:Enters Tryz.prog fk)(f:InsD→List UInt8)
  (hL:L.length+(lS f xs).length≤1000000)
  (hcall:∀(W:World) (v1:Value) (L1:List UInt8) (k:Nat) (hk:k<xs.length),WrTo p w W v v1 L1→L1.length+(f xs[k]).length≤1000000→Calls Tryz.prog fk #[xs[k].agg,c1] W λe w'=>e = .returned (.tuple #[])∧∃v',WrTo p W w' v1 v' (L1++f xs[k])) :
  Calls Tryz.prog 176 #[.pointer (some ⟨p,0,none⟩),sv,.func (.func fk) #[] #[c1]] w λe w'=>e = .returned (.tuple #[])∧∃v',WrTo p w w' v v' (L++lS f xs):=by
 obtain⟨a,c,rfl⟩:=hx.shape;have HX:=hid hx;have HC:=hid hcall;have HFF:=hid hF;have HLL:=hid hL;have H:=hid hw;have hu:=oC (n:=xs.length) (by omega);have HS:=hid (ia xs.length p v L w (by omega) hw (by omega));have ent:∀(args:Array Value) (w:World),(callFunc fk args).run Tryz.prog w = .ok (.enter fk args) w:=hent;clear hx hcall hent hw hF hL
 go_enter Tryz.func176,Tryz.ntmps176
 go_wp2_with fail
 try rw[hu]
 refine HS.out.mono ?_;rintro e w1 ⟨rfl,v1,h1⟩;have H1:=hid h1;clear h1 hu;go_wp2
 go_loopw [15] (λi wr=>∃(k:Nat) (v2:Value),i = .int .i64 k∧k≤xs.length∧Hid (WrTo p w wr v v2 (L++(bB xs.length++(xs.take k).flatMap f)))) (λi _=>xs.length-(intOf i).toNat)
 case atStart=>exact⟨0,v1,rfl,by omega,hid (by simpa using H1.out)⟩
 case round=>
  obtain⟨k,v2,rfl,hk,HW⟩:=hrel;by_cases hlt:k<xs.length
  ·obtain⟨b,o,rfl,hF1,hbl,h0,h1,h2⟩:=InsD.at (HX.out.kept HW.out.fr (λg hg e=>by rcases e with e|e;exact(HFF.out g hg).1 e;exact(HFF.out g hg).2 e)) k hlt
   have HW2:=hid (HW.out.alloc (.cells #[.string ⟨xs[k].name.toArray⟩,.int .i64 xs[k].tick,.bool xs[k].halt] 72));have HST:=hid (oA f xs k hlt);have HLN:=hid (show(L++(bB xs.length++(xs.take k).flatMap f)).length+(f xs[k]).length≤1000000 from by
    have h9:=HLL.out;have h8:=oB f xs (k+1);rw[HST.out]at h8;unfold lS at h9;simp only[List.length_append]at h8 h9 ⊢;omega)
   have HCALL:=hid (HC.out _ v2 _ k hlt HW2.out HLN.out);unfold InsD.agg at HCALL;clear hF1
   go_wp2_with fail
   refine HCALL.out.mono ?_;rintro e w3 ⟨rfl,v3,h3⟩;have H3:=hid (show WrTo p w w3 v v3 (L++(bB xs.length++(xs.take (k+1)).flatMap f))from by
    have:=HW2.out.trans h3;rw[HST.out];simpa[List.append_assoc]using this)
   clear h3;go_wp2
   go_roundw
   case rel=>exact⟨k+1,v3,by go_num,by omega,H3⟩
   case measure=>simp[intOf];omega
  ·have hkl:k=xs.length:=by omega
   have HE:=hid (show WrTo p w wr v v2 (L++lS f xs)from by have:=HW.out;rw[hkl,List.take_length]at this;exact this);go_wp2
   go_end0
   exact⟨rfl,v2,HE.out⟩
set_option maxRecDepth 100000 in
theorem oF (F:Nat→Prop)(w:World)(p:Nat)(v:Value)(L:List UInt8)(hw:IsWr w p v L)(sv:Value)(xs:List RowD)(hx:RowsAt F w sv xs)(hF:∀g,F g→g≠p∧v.ownBlock≠some g)(hlen:xs.length≤4398046511104)(fk:FuncId)(c1:Value)(hent:Enters Tryz.prog fk)(f:RowD→List UInt8)
  (hL:L.length+(lS f xs).length≤1000000)
  (hcall:∀(W:World) (v1:Value) (L1:List UInt8) (k:Nat) (hk:k<xs.length),WrTo p w W v v1 L1→L1.length+(f xs[k]).length≤1000000→Calls Tryz.prog fk #[xs[k].agg,c1] W λe w'=>e = .returned (.tuple #[])∧∃v',WrTo p W w' v1 v' (L1++f xs[k])) :
  Calls Tryz.prog 178 #[.pointer (some ⟨p,0,none⟩),sv,.func (.func fk) #[] #[c1]] w λe w'=>e = .returned (.tuple #[])∧∃v',WrTo p w w' v v' (L++lS f xs):=by
 obtain⟨a,c,rfl⟩:=hx.shape;have HX:=hid hx;have HC:=hid hcall;have HFF:=hid hF;have HLL:=hid hL;have H:=hid hw;have hu:=oC (n:=xs.length) (by omega);have HS:=hid (ia xs.length p v L w (by omega) hw (by omega));have ent:∀(args:Array Value) (w:World),(callFunc fk args).run Tryz.prog w = .ok (.enter fk args) w:=hent;clear hx hcall hent hw hF hL
 go_enter Tryz.func178,Tryz.ntmps178
 go_wp2_with fail
 try rw[hu]
 refine HS.out.mono ?_;rintro e w1 ⟨rfl,v1,h1⟩;have H1:=hid h1;clear h1 hu;go_wp2
 go_loopw [15] (λi wr=>∃(k:Nat) (v2:Value),i = .int .i64 k∧k≤xs.length∧Hid (WrTo p w wr v v2 (L++(bB xs.length++(xs.take k).flatMap f)))) (λi _=>xs.length-(intOf i).toNat)
 case atStart=>exact⟨0,v1,rfl,by omega,hid (by simpa using H1.out)⟩
 case round=>
  obtain⟨k,v2,rfl,hk,HW⟩:=hrel;by_cases hlt:k<xs.length
  ·obtain⟨b,o,rfl,hF1,hbl,h0,h1,h2,h3⟩:=RowD.at (HX.out.kept HW.out.fr (λg hg e=>by rcases e with e|e;exact(HFF.out g hg).1 e;exact(HFF.out g hg).2 e)) k hlt
   have HW2:=hid (HW.out.alloc (.cells #[.int .i64 xs[k].acct,.int .i64 xs[k].asset,.int .i64 xs[k].free,.int .i64 xs[k].held] 98));have HST:=hid (oA f xs k hlt);have HLN:=hid (show(L++(bB xs.length++(xs.take k).flatMap f)).length+(f xs[k]).length≤1000000 from by
    have h9:=HLL.out;have h8:=oB f xs (k+1);rw[HST.out]at h8;unfold lS at h9;simp only[List.length_append]at h8 h9 ⊢;omega)
   have HCALL:=hid (HC.out _ v2 _ k hlt HW2.out HLN.out);unfold RowD.agg at HCALL;clear hF1
   go_wp2_with fail
   refine HCALL.out.mono ?_;rintro e w3 ⟨rfl,v3,h3⟩;have H3:=hid (show WrTo p w w3 v v3 (L++(bB xs.length++(xs.take (k+1)).flatMap f))from by
    have:=HW2.out.trans h3;rw[HST.out];simpa[List.append_assoc]using this)
   clear h3;go_wp2
   go_roundw
   case rel=>exact⟨k+1,v3,by go_num,by omega,H3⟩
   case measure=>simp[intOf];omega
  ·have hkl:k=xs.length:=by omega
   have HE:=hid (show WrTo p w wr v v2 (L++lS f xs)from by have:=HW.out;rw[hkl,List.take_length]at this;exact this);go_wp2
   go_end0
   exact⟨rfl,v2,HE.out⟩
set_option maxRecDepth 100000 in
theorem oG (F:Nat→Prop)(w:World)(p:Nat)(v:Value)(L:List UInt8)(hw:IsWr w p v L)(sv:Value)(xs:List OrdD)(hx:OrdsAt F w sv xs)(hF:∀g,F g→g≠p∧v.ownBlock≠some g)(hlen:xs.length≤4398046511104)(fk:FuncId)(c1:Value)(hent:Enters Tryz.prog fk)(f:OrdD→List UInt8)
  (hL:L.length+(lS f xs).length≤1000000)
  (hcall:∀(W:World) (v1:Value) (L1:List UInt8) (k:Nat) (hk:k<xs.length),WrTo p w W v v1 L1→L1.length+(f xs[k]).length≤1000000→Calls Tryz.prog fk #[xs[k].agg,c1] W λe w'=>e = .returned (.tuple #[])∧∃v',WrTo p W w' v1 v' (L1++f xs[k])) :
  Calls Tryz.prog 180 #[.pointer (some ⟨p,0,none⟩),sv,.func (.func fk) #[] #[c1]] w λe w'=>e = .returned (.tuple #[])∧∃v',WrTo p w w' v v' (L++lS f xs):=by
 obtain⟨a,c,rfl⟩:=hx.shape;have HX:=hid hx;have HC:=hid hcall;have HFF:=hid hF;have HLL:=hid hL;have H:=hid hw;have hu:=oC (n:=xs.length) (by omega);have HS:=hid (ia xs.length p v L w (by omega) hw (by omega));have ent:∀(args:Array Value) (w:World),(callFunc fk args).run Tryz.prog w = .ok (.enter fk args) w:=hent;clear hx hcall hent hw hF hL
 go_enter Tryz.func180,Tryz.ntmps180
 go_wp2_with fail
 try rw[hu]
 refine HS.out.mono ?_;rintro e w1 ⟨rfl,v1,h1⟩;have H1:=hid h1;clear h1 hu;go_wp2
 go_loopw [15] (λi wr=>∃(k:Nat) (v2:Value),i = .int .i64 k∧k≤xs.length∧Hid (WrTo p w wr v v2 (L++(bB xs.length++(xs.take k).flatMap f)))) (λi _=>xs.length-(intOf i).toNat)
 case atStart=>exact⟨0,v1,rfl,by omega,hid (by simpa using H1.out)⟩
 case round=>
  obtain⟨k,v2,rfl,hk,HW⟩:=hrel;by_cases hlt:k<xs.length
  ·obtain⟨b,o,rfl,hF1,hbl,h0,h1,h2,h3,h4,h5⟩:=OrdD.at (HX.out.kept HW.out.fr (λg hg e=>by rcases e with e|e;exact(HFF.out g hg).1 e;exact(HFF.out g hg).2 e)) k hlt
   have HW2:=hid (HW.out.alloc (.cells #[.int .i64 xs[k].id,.int .i64 xs[k].acct,.int .i64 xs[k].inst,.int .u8 xs[k].side,.int .i64 xs[k].price,.int .i64 xs[k].left] 101));have HST:=hid (oA f xs k hlt);have HLN:=hid (show(L++(bB xs.length++(xs.take k).flatMap f)).length+(f xs[k]).length≤1000000 from by
    have h9:=HLL.out;have h8:=oB f xs (k+1);rw[HST.out]at h8;unfold lS at h9;simp only[List.length_append]at h8 h9 ⊢;omega)
   have HCALL:=hid (HC.out _ v2 _ k hlt HW2.out HLN.out);unfold OrdD.agg at HCALL;clear hF1
   go_wp2_with fail
   refine HCALL.out.mono ?_;rintro e w3 ⟨rfl,v3,h3⟩;have H3:=hid (show WrTo p w w3 v v3 (L++(bB xs.length++(xs.take (k+1)).flatMap f))from by
    have:=HW2.out.trans h3;rw[HST.out];simpa[List.append_assoc]using this)
   clear h3;go_wp2
   go_roundw
   case rel=>exact⟨k+1,v3,by go_num,by omega,H3⟩
   case measure=>simp[intOf];omega
  ·have hkl:k=xs.length:=by omega
   have HE:=hid (show WrTo p w wr v v2 (L++lS f xs)from by have:=HW.out;rw[hkl,List.take_length]at this;exact this);go_wp2
   go_end0
   exact⟨rfl,v2,HE.out⟩
set_option maxRecDepth 100000 in
theorem oH (F:Nat→Prop)(w:World)(p:Nat)(v:Value)(L:List UInt8)(hw:IsWr w p v L)(sv:Value)(xs:List BidD)(hx:BidsAt F w sv xs)(hF:∀g,F g→g≠p∧v.ownBlock≠some g)(hlen:xs.length≤4398046511104)(fk:FuncId)(c1:Value)(hent:Enters Tryz.prog fk)(f:BidD→List UInt8)
  (hL:L.length+(lS f xs).length≤1000000)
  (hcall:∀(W:World) (v1:Value) (L1:List UInt8) (k:Nat) (hk:k<xs.length),WrTo p w W v v1 L1→L1.length+(f xs[k]).length≤1000000→Calls Tryz.prog fk #[xs[k].agg,c1] W λe w'=>e = .returned (.tuple #[])∧∃v',WrTo p W w' v1 v' (L1++f xs[k])) :
  Calls Tryz.prog 185 #[.pointer (some ⟨p,0,none⟩),sv,.func (.func fk) #[] #[c1]] w λe w'=>e = .returned (.tuple #[])∧∃v',WrTo p w w' v v' (L++lS f xs):=by
 obtain⟨a,c,rfl⟩:=hx.shape;have HX:=hid hx;have HC:=hid hcall;have HFF:=hid hF;have HLL:=hid hL;have H:=hid hw;have hu:=oC (n:=xs.length) (by omega);have HS:=hid (ia xs.length p v L w (by omega) hw (by omega));have ent:∀(args:Array Value) (w:World),(callFunc fk args).run Tryz.prog w = .ok (.enter fk args) w:=hent;clear hx hcall hent hw hF hL
 go_enter Tryz.func185,Tryz.ntmps185
 go_wp2_with fail
 try rw[hu]
 refine HS.out.mono ?_;rintro e w1 ⟨rfl,v1,h1⟩;have H1:=hid h1;clear h1 hu;go_wp2
 go_loopw [15] (λi wr=>∃(k:Nat) (v2:Value),i = .int .i64 k∧k≤xs.length∧Hid (WrTo p w wr v v2 (L++(bB xs.length++(xs.take k).flatMap f)))) (λi _=>xs.length-(intOf i).toNat)
 case atStart=>exact⟨0,v1,rfl,by omega,hid (by simpa using H1.out)⟩
 case round=>
  obtain⟨k,v2,rfl,hk,HW⟩:=hrel;by_cases hlt:k<xs.length
  ·obtain⟨b,o,rfl,hF1,hbl,h0,h1⟩:=BidD.at (HX.out.kept HW.out.fr (λg hg e=>by rcases e with e|e;exact(HFF.out g hg).1 e;exact(HFF.out g hg).2 e)) k hlt
   have HW2:=hid (HW.out.alloc (.cells #[.int .i64 xs[k].acct,.int .i64 xs[k].amount] 150));have HST:=hid (oA f xs k hlt);have HLN:=hid (show(L++(bB xs.length++(xs.take k).flatMap f)).length+(f xs[k]).length≤1000000 from by
    have h9:=HLL.out;have h8:=oB f xs (k+1);rw[HST.out]at h8;unfold lS at h9;simp only[List.length_append]at h8 h9 ⊢;omega)
   have HCALL:=hid (HC.out _ v2 _ k hlt HW2.out HLN.out);unfold BidD.agg at HCALL;clear hF1
   go_wp2_with fail
   refine HCALL.out.mono ?_;rintro e w3 ⟨rfl,v3,h3⟩;have H3:=hid (show WrTo p w w3 v v3 (L++(bB xs.length++(xs.take (k+1)).flatMap f))from by
    have:=HW2.out.trans h3;rw[HST.out];simpa[List.append_assoc]using this)
   clear h3;go_wp2
   go_roundw
   case rel=>exact⟨k+1,v3,by go_num,by omega,H3⟩
   case measure=>simp[intOf];omega
  ·have hkl:k=xs.length:=by omega
   have HE:=hid (show WrTo p w wr v v2 (L++lS f xs)from by have:=HW.out;rw[hkl,List.take_length]at this;exact this);go_wp2
   go_end0
   exact⟨rfl,v2,HE.out⟩
set_option maxRecDepth 100000 in
theorem oI (F:Nat→Prop)(w:World)(p:Nat)(v:Value)(L:List UInt8)(hw:IsWr w p v L)(sv:Value)(xs:List AucD)(hx:AucsAt F w sv xs)(hF:∀g,F g→g≠p∧v.ownBlock≠some g)(hlen:xs.length≤4398046511104)(fk:FuncId)(c1:Value)(hent:Enters Tryz.prog fk)(f:AucD→List UInt8)
  (hL:L.length+(lS f xs).length≤1000000)
  (hcall:∀(W:World) (v1:Value) (L1:List UInt8) (k:Nat) (hk:k<xs.length) (bv:Value) (_:BidsAt F W bv xs[k].bids),WrTo p w W v v1 L1→L1.length+(f xs[k]).length≤1000000→Calls Tryz.prog fk #[xs[k].agg bv,c1] W λe w'=>e = .returned (.tuple #[])∧∃v',WrTo p W w' v1 v' (L1++f xs[k])) :
  Calls Tryz.prog 183 #[.pointer (some ⟨p,0,none⟩),sv,.func (.func fk) #[] #[c1]] w λe w'=>e = .returned (.tuple #[])∧∃v',WrTo p w w' v v' (L++lS f xs):=by
 obtain⟨a,c,rfl⟩:=hx.shape;have HX:=hid hx;have HC:=hid hcall;have HFF:=hid hF;have HLL:=hid hL;have H:=hid hw;have hu:=oC (n:=xs.length) (by omega);have HS:=hid (ia xs.length p v L w (by omega) hw (by omega));have ent:∀(args:Array Value) (w:World),(callFunc fk args).run Tryz.prog w = .ok (.enter fk args) w:=hent;clear hx hcall hent hw hF hL
 go_enter Tryz.func183,Tryz.ntmps183
 go_wp2_with fail
 try rw[hu]
 refine HS.out.mono ?_;rintro e w1 ⟨rfl,v1,h1⟩;have H1:=hid h1;clear h1 hu;go_wp2
 go_loopw [15] (λi wr=>∃(k:Nat) (v2:Value),i = .int .i64 k∧k≤xs.length∧Hid (WrTo p w wr v v2 (L++(bB xs.length++(xs.take k).flatMap f)))) (λi _=>xs.length-(intOf i).toNat)
 case atStart=>exact⟨0,v1,rfl,by omega,hid (by simpa using H1.out)⟩
 case round=>
  obtain⟨k,v2,rfl,hk,HW⟩:=hrel;by_cases hlt:k<xs.length
  ·obtain⟨b,o,bv,rfl,hF1,hbl,hbids,h0,h1,h2,h3,h4,h5,h6,h7,h8⟩:=AucsAt.at (HX.out.kept HW.out.fr (λg hg e=>by rcases e with e|e;exact(HFF.out g hg).1 e;exact(HFF.out g hg).2 e)) k hlt
   obtain⟨ba,bc,rfl⟩:=hbids.shape;have HW2:=hid (HW.out.alloc (.cells #[.int .i64 xs[k].id,.int .i64 xs[k].seller,.int .i64 xs[k].inst,.bool xs[k].sealed,.int .i64 xs[k].qty,.int .i64 xs[k].reserve,.int .i64 xs[k].step,.int .i64 xs[k].fin,.slice ba xs[k].bids.length bc] 68));have HST:=hid (oA f xs k hlt);have HLN:=hid (show(L++(bB xs.length++(xs.take k).flatMap f)).length+(f xs[k]).length≤1000000 from by
    have h9:=HLL.out;have h8:=oB f xs (k+1);rw[HST.out]at h8;unfold lS at h9;simp only[List.length_append]at h8 h9 ⊢;omega)
   have HCALL:=hid (HC.out _ v2 _ k hlt _ (hbids.pure (ke _ _)) HW2.out HLN.out);unfold AucD.agg at HCALL;clear hF1 hbids
   go_wp2_with fail
   refine HCALL.out.mono ?_;rintro e w3 ⟨rfl,v3,h3⟩;have H3:=hid (show WrTo p w w3 v v3 (L++(bB xs.length++(xs.take (k+1)).flatMap f))from by
    have:=HW2.out.trans h3;rw[HST.out];simpa[List.append_assoc]using this)
   clear h3;go_wp2
   go_roundw
   case rel=>exact⟨k+1,v3,by go_num,by omega,H3⟩
   case measure=>simp[intOf];omega
  ·have hkl:k=xs.length:=by omega
   have HE:=hid (show WrTo p w wr v v2 (L++lS f xs)from by have:=HW.out;rw[hkl,List.take_length]at this;exact this);go_wp2
   go_end0
   exact⟨rfl,v2,HE.out⟩
set_option maxRecDepth 100000 in
theorem oJ (F:Nat→Prop)(w:World)(p:Nat)(v:Value)(L:List UInt8)(hw:IsWr w p v L)(sv:Value)(xs:List OpnD)(hx:OpnsAt F w sv xs)(hF:∀g,F g→g≠p∧v.ownBlock≠some g)(hlen:xs.length≤4398046511104)(fk:FuncId)(c1:Value)(hent:Enters Tryz.prog fk)(f:OpnD→List UInt8)
  (hL:L.length+(lS f xs).length≤1000000)
  (hcall:∀(W:World) (v1:Value) (L1:List UInt8) (k:Nat) (hk:k<xs.length),WrTo p w W v v1 L1→L1.length+(f xs[k]).length≤1000000→Calls Tryz.prog fk #[xs[k].agg,c1] W λe w'=>e = .returned (.tuple #[])∧∃v',WrTo p W w' v1 v' (L1++f xs[k])) :
  Calls Tryz.prog 187 #[.pointer (some ⟨p,0,none⟩),sv,.func (.func fk) #[] #[c1]] w λe w'=>e = .returned (.tuple #[])∧∃v',WrTo p w w' v v' (L++lS f xs):=by
 obtain⟨a,c,rfl⟩:=hx.shape;have HX:=hid hx;have HC:=hid hcall;have HFF:=hid hF;have HLL:=hid hL;have H:=hid hw;have hu:=oC (n:=xs.length) (by omega);have HS:=hid (ia xs.length p v L w (by omega) hw (by omega));have ent:∀(args:Array Value) (w:World),(callFunc fk args).run Tryz.prog w = .ok (.enter fk args) w:=hent;clear hx hcall hent hw hF hL
 go_enter Tryz.func187,Tryz.ntmps187
 go_wp2_with fail
 try rw[hu]
 refine HS.out.mono ?_;rintro e w1 ⟨rfl,v1,h1⟩;have H1:=hid h1;clear h1 hu;go_wp2
 go_loopw [15] (λi wr=>∃(k:Nat) (v2:Value),i = .int .i64 k∧k≤xs.length∧Hid (WrTo p w wr v v2 (L++(bB xs.length++(xs.take k).flatMap f)))) (λi _=>xs.length-(intOf i).toNat)
 case atStart=>exact⟨0,v1,rfl,by omega,hid (by simpa using H1.out)⟩
 case round=>
  obtain⟨k,v2,rfl,hk,HW⟩:=hrel;by_cases hlt:k<xs.length
  ·obtain⟨b,o,rfl,hF1,hbl,h0,h1,h2,h3,h4,h5⟩:=OpnD.at (HX.out.kept HW.out.fr (λg hg e=>by rcases e with e|e;exact(HFF.out g hg).1 e;exact(HFF.out g hg).2 e)) k hlt
   have HW2:=hid (HW.out.alloc (.cells #[.int .i64 xs[k].acct,.int .i64 xs[k].id,.int .i64 xs[k].inst,.int .u8 xs[k].side,.int .i64 xs[k].price,.int .i64 xs[k].left] 106));have HST:=hid (oA f xs k hlt);have HLN:=hid (show(L++(bB xs.length++(xs.take k).flatMap f)).length+(f xs[k]).length≤1000000 from by
    have h9:=HLL.out;have h8:=oB f xs (k+1);rw[HST.out]at h8;unfold lS at h9;simp only[List.length_append]at h8 h9 ⊢;omega)
   have HCALL:=hid (HC.out _ v2 _ k hlt HW2.out HLN.out);unfold OpnD.agg at HCALL;clear hF1
   go_wp2_with fail
   refine HCALL.out.mono ?_;rintro e w3 ⟨rfl,v3,h3⟩;have H3:=hid (show WrTo p w w3 v v3 (L++(bB xs.length++(xs.take (k+1)).flatMap f))from by
    have:=HW2.out.trans h3;rw[HST.out];simpa[List.append_assoc]using this)
   clear h3;go_wp2
   go_roundw
   case rel=>exact⟨k+1,v3,by go_num,by omega,H3⟩
   case measure=>simp[intOf];omega
  ·have hkl:k=xs.length:=by omega
   have HE:=hid (show WrTo p w wr v v2 (L++lS f xs)from by have:=HW.out;rw[hkl,List.take_length]at this;exact this);go_wp2
   go_end0
   exact⟨rfl,v2,HE.out⟩
set_option maxRecDepth 100000 in
theorem oK (F:Nat→Prop)(w:World)(p:Nat)(v:Value)(L:List UInt8)(hw:IsWr w p v L)(sv:Value)(xs:List LotD)(hx:LotsAt F w sv xs)(hF:∀g,F g→g≠p∧v.ownBlock≠some g)(hlen:xs.length≤4398046511104)(fk:FuncId)(c1:Value)(hent:Enters Tryz.prog fk)(f:LotD→List UInt8)
  (hL:L.length+(lS f xs).length≤1000000)
  (hcall:∀(W:World) (v1:Value) (L1:List UInt8) (k:Nat) (hk:k<xs.length),WrTo p w W v v1 L1→L1.length+(f xs[k]).length≤1000000→Calls Tryz.prog fk #[xs[k].agg,c1] W λe w'=>e = .returned (.tuple #[])∧∃v',WrTo p W w' v1 v' (L1++f xs[k])) :
  Calls Tryz.prog 189 #[.pointer (some ⟨p,0,none⟩),sv,.func (.func fk) #[] #[c1]] w λe w'=>e = .returned (.tuple #[])∧∃v',WrTo p w w' v v' (L++lS f xs):=by
 obtain⟨a,c,rfl⟩:=hx.shape;have HX:=hid hx;have HC:=hid hcall;have HFF:=hid hF;have HLL:=hid hL;have H:=hid hw;have hu:=oC (n:=xs.length) (by omega);have HS:=hid (ia xs.length p v L w (by omega) hw (by omega));have ent:∀(args:Array Value) (w:World),(callFunc fk args).run Tryz.prog w = .ok (.enter fk args) w:=hent;clear hx hcall hent hw hF hL
 go_enter Tryz.func189,Tryz.ntmps189
 go_wp2_with fail
 try rw[hu]
 refine HS.out.mono ?_;rintro e w1 ⟨rfl,v1,h1⟩;have H1:=hid h1;clear h1 hu;go_wp2
 go_loopw [15] (λi wr=>∃(k:Nat) (v2:Value),i = .int .i64 k∧k≤xs.length∧Hid (WrTo p w wr v v2 (L++(bB xs.length++(xs.take k).flatMap f)))) (λi _=>xs.length-(intOf i).toNat)
 case atStart=>exact⟨0,v1,rfl,by omega,hid (by simpa using H1.out)⟩
 case round=>
  obtain⟨k,v2,rfl,hk,HW⟩:=hrel;by_cases hlt:k<xs.length
  ·obtain⟨b,o,rfl,hF1,hbl,h0,h1,h2,h3⟩:=LotD.at (HX.out.kept HW.out.fr (λg hg e=>by rcases e with e|e;exact(HFF.out g hg).1 e;exact(HFF.out g hg).2 e)) k hlt
   have HW2:=hid (HW.out.alloc (.cells #[.int .i64 xs[k].id,.int .i64 xs[k].seller,.int .i64 xs[k].inst,.int .i64 xs[k].qty] 109));have HST:=hid (oA f xs k hlt);have HLN:=hid (show(L++(bB xs.length++(xs.take k).flatMap f)).length+(f xs[k]).length≤1000000 from by
    have h9:=HLL.out;have h8:=oB f xs (k+1);rw[HST.out]at h8;unfold lS at h9;simp only[List.length_append]at h8 h9 ⊢;omega)
   have HCALL:=hid (HC.out _ v2 _ k hlt HW2.out HLN.out);unfold LotD.agg at HCALL;clear hF1
   go_wp2_with fail
   refine HCALL.out.mono ?_;rintro e w3 ⟨rfl,v3,h3⟩;have H3:=hid (show WrTo p w w3 v v3 (L++(bB xs.length++(xs.take (k+1)).flatMap f))from by
    have:=HW2.out.trans h3;rw[HST.out];simpa[List.append_assoc]using this)
   clear h3;go_wp2
   go_roundw
   case rel=>exact⟨k+1,v3,by go_num,by omega,H3⟩
   case measure=>simp[intOf];omega
  ·have hkl:k=xs.length:=by omega
   have HE:=hid (show WrTo p w wr v v2 (L++lS f xs)from by have:=HW.out;rw[hkl,List.take_length]at this;exact this);go_wp2
   go_end0
   exact⟨rfl,v2,HE.out⟩
set_option maxRecDepth 100000 in
theorem oL (F:Nat→Prop)(w:World)(p:Nat)(v:Value)(L:List UInt8)(hw:IsWr w p v L)(sv:Value)(xs:List PosD)(hx:PossAt F w sv xs)(hF:∀g,F g→g≠p∧v.ownBlock≠some g)(hlen:xs.length≤4398046511104)(fk:FuncId)(c1:Value)(hent:Enters Tryz.prog fk)(f:PosD→List UInt8)
  (hL:L.length+(lS f xs).length≤1000000)
  (hcall:∀(W:World) (v1:Value) (L1:List UInt8) (k:Nat) (hk:k<xs.length),WrTo p w W v v1 L1→L1.length+(f xs[k]).length≤1000000→Calls Tryz.prog fk #[xs[k].agg,c1] W λe w'=>e = .returned (.tuple #[])∧∃v',WrTo p W w' v1 v' (L1++f xs[k])) :
  Calls Tryz.prog 191 #[.pointer (some ⟨p,0,none⟩),sv,.func (.func fk) #[] #[c1]] w λe w'=>e = .returned (.tuple #[])∧∃v',WrTo p w w' v v' (L++lS f xs):=by
 obtain⟨a,c,rfl⟩:=hx.shape;have HX:=hid hx;have HC:=hid hcall;have HFF:=hid hF;have HLL:=hid hL;have H:=hid hw;have hu:=oC (n:=xs.length) (by omega);have HS:=hid (ia xs.length p v L w (by omega) hw (by omega));have ent:∀(args:Array Value) (w:World),(callFunc fk args).run Tryz.prog w = .ok (.enter fk args) w:=hent;clear hx hcall hent hw hF hL
 go_enter Tryz.func191,Tryz.ntmps191
 go_wp2_with fail
 try rw[hu]
 refine HS.out.mono ?_;rintro e w1 ⟨rfl,v1,h1⟩;have H1:=hid h1;clear h1 hu;go_wp2
 go_loopw [15] (λi wr=>∃(k:Nat) (v2:Value),i = .int .i64 k∧k≤xs.length∧Hid (WrTo p w wr v v2 (L++(bB xs.length++(xs.take k).flatMap f)))) (λi _=>xs.length-(intOf i).toNat)
 case atStart=>exact⟨0,v1,rfl,by omega,hid (by simpa using H1.out)⟩
 case round=>
  obtain⟨k,v2,rfl,hk,HW⟩:=hrel;by_cases hlt:k<xs.length
  ·obtain⟨b,o,rfl,hF1,hbl,h0,h1,h2,h3,h4,h5⟩:=PosD.at (HX.out.kept HW.out.fr (λg hg e=>by rcases e with e|e;exact(HFF.out g hg).1 e;exact(HFF.out g hg).2 e)) k hlt
   have HW2:=hid (HW.out.alloc (.cells #[.int .i64 xs[k].acct,.int .i64 xs[k].inst,.int .i64 xs[k].bought,.int .i64 xs[k].sold,.int .i64 xs[k].spent,.int .i64 xs[k].got] 112));have HST:=hid (oA f xs k hlt);have HLN:=hid (show(L++(bB xs.length++(xs.take k).flatMap f)).length+(f xs[k]).length≤1000000 from by
    have h9:=HLL.out;have h8:=oB f xs (k+1);rw[HST.out]at h8;unfold lS at h9;simp only[List.length_append]at h8 h9 ⊢;omega)
   have HCALL:=hid (HC.out _ v2 _ k hlt HW2.out HLN.out);unfold PosD.agg at HCALL;clear hF1
   go_wp2_with fail
   refine HCALL.out.mono ?_;rintro e w3 ⟨rfl,v3,h3⟩;have H3:=hid (show WrTo p w w3 v v3 (L++(bB xs.length++(xs.take (k+1)).flatMap f))from by
    have:=HW2.out.trans h3;rw[HST.out];simpa[List.append_assoc]using this)
   clear h3;go_wp2
   go_roundw
   case rel=>exact⟨k+1,v3,by go_num,by omega,H3⟩
   case measure=>simp[intOf];omega
  ·have hkl:k=xs.length:=by omega
   have HE:=hid (show WrTo p w wr v v2 (L++lS f xs)from by have:=HW.out;rw[hkl,List.take_length]at this;exact this);go_wp2
   go_end0
   exact⟨rfl,v2,HE.out⟩
set_option maxRecDepth 100000 in
theorem oM (F:Nat→Prop)(w:World)(p:Nat)(v:Value)(L:List UInt8)(hw:IsWr w p v L)(sv:Value)(xs:List LinD)(hx:LinsAt F w sv xs)(hF:∀g,F g→g≠p∧v.ownBlock≠some g)(hlen:xs.length≤4398046511104)(fk:FuncId)(c1:Value)(hent:Enters Tryz.prog fk)(f:LinD→List UInt8)
  (hL:L.length+(lS f xs).length≤1000000)
  (hcall:∀(W:World) (v1:Value) (L1:List UInt8) (k:Nat) (hk:k<xs.length),WrTo p w W v v1 L1→L1.length+(f xs[k]).length≤1000000→Calls Tryz.prog fk #[xs[k].agg,c1] W λe w'=>e = .returned (.tuple #[])∧∃v',WrTo p W w' v1 v' (L1++f xs[k])) :
  Calls Tryz.prog 193 #[.pointer (some ⟨p,0,none⟩),sv,.func (.func fk) #[] #[c1]] w λe w'=>e = .returned (.tuple #[])∧∃v',WrTo p w w' v v' (L++lS f xs):=by
 obtain⟨a,c,rfl⟩:=hx.shape;have HX:=hid hx;have HC:=hid hcall;have HFF:=hid hF;have HLL:=hid hL;have H:=hid hw;have hu:=oC (n:=xs.length) (by omega);have HS:=hid (ia xs.length p v L w (by omega) hw (by omega));have ent:∀(args:Array Value) (w:World),(callFunc fk args).run Tryz.prog w = .ok (.enter fk args) w:=hent;clear hx hcall hent hw hF hL
 go_enter Tryz.func193,Tryz.ntmps193
 go_wp2_with fail
 try rw[hu]
 refine HS.out.mono ?_;rintro e w1 ⟨rfl,v1,h1⟩;have H1:=hid h1;clear h1 hu;go_wp2
 go_loopw [15] (λi wr=>∃(k:Nat) (v2:Value),i = .int .i64 k∧k≤xs.length∧Hid (WrTo p w wr v v2 (L++(bB xs.length++(xs.take k).flatMap f)))) (λi _=>xs.length-(intOf i).toNat)
 case atStart=>exact⟨0,v1,rfl,by omega,hid (by simpa using H1.out)⟩
 case round=>
  obtain⟨k,v2,rfl,hk,HW⟩:=hrel;by_cases hlt:k<xs.length
  ·obtain⟨b,o,rfl,hF1,hbl,h0,h1,h2,h3,h4⟩:=LinD.at (HX.out.kept HW.out.fr (λg hg e=>by rcases e with e|e;exact(HFF.out g hg).1 e;exact(HFF.out g hg).2 e)) k hlt
   have HW2:=hid (HW.out.alloc (.cells #[.int .i64 xs[k].acct,.int .i64 xs[k].seq,.int .u8 xs[k].kind,.int .i64 xs[k].delta,.int .i64 xs[k].balance] 115));have HST:=hid (oA f xs k hlt);have HLN:=hid (show(L++(bB xs.length++(xs.take k).flatMap f)).length+(f xs[k]).length≤1000000 from by
    have h9:=HLL.out;have h8:=oB f xs (k+1);rw[HST.out]at h8;unfold lS at h9;simp only[List.length_append]at h8 h9 ⊢;omega)
   have HCALL:=hid (HC.out _ v2 _ k hlt HW2.out HLN.out);unfold LinD.agg at HCALL;clear hF1
   go_wp2_with fail
   refine HCALL.out.mono ?_;rintro e w3 ⟨rfl,v3,h3⟩;have H3:=hid (show WrTo p w w3 v v3 (L++(bB xs.length++(xs.take (k+1)).flatMap f))from by
    have:=HW2.out.trans h3;rw[HST.out];simpa[List.append_assoc]using this)
   clear h3;go_wp2
   go_roundw
   case rel=>exact⟨k+1,v3,by go_num,by omega,H3⟩
   case measure=>simp[intOf];omega
  ·have hkl:k=xs.length:=by omega
   have HE:=hid (show WrTo p w wr v v2 (L++lS f xs)from by have:=HW.out;rw[hkl,List.take_length]at this;exact this);go_wp2
   go_end0
   exact⟨rfl,v2,HE.out⟩
end
end Go.Proofs.YtaeakdichkhjaaaGreatDoor
