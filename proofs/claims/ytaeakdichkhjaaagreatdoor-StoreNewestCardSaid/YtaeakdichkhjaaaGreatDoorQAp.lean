/- The closures of snap.put and project: each writes one struct. -/
import Derived.Deep.RegionWith
import Derived.Deep.RegionHeld3
import Derived.Test.YtaeakdichkhjaaaGreatDoorQAg
import Derived.Test.YtaeakdichkhjaaaGreatDoorQAo
set_option maxHeartbeats 4000000
open Go.Lib(hid)
namespace Go.Proofs.YtaeakdichkhjaaaGreatDoor
section
open Go.RowKit
theorem oN {n:Nat}(w:World)(o:Obj)(h:n=w.heap.size):(w.alloc o).heap[n]?=some o:=by subst h;exact heap_alloc_new _ _
theorem IsWr.pureW {w w':World}{p:Nat}{v:Value}{L:List UInt8}(h:IsWr w p v L)(hb:Below w.heap.size w w'):IsWr w' p v L:=h.kept (Fr.pure (S:=λ_=>False) hb) (λh=>h) (λ_ _ h=>h)
theorem WrTo.underW {p:Nat}{w W0 w':World}{v v':Value}{L:List UInt8}(hb:Below w.heap.size w W0)(h:WrTo p W0 w' v v' L):WrTo p w w' v v' L:=
 ⟨h.is,(Fr.pure hb).then h.fr (λ_ _ e=>e),h.went.older hb.size⟩
theorem oO (w:World)(p:Nat)(v:Value)(L:List UInt8)(h:IsWr w p v L)(m:Nat)(hm:m=w.heap.size)(ns:List Int)(C:Array Value)(k:Nat)(hk:k=ns.length)(hC:∀i (hi:i<ns.length),C[i]?=some (.int .i64 ns[i]))(hn:ns.length≤100)(hL:L.length≤1000000) :
  Calls Tryz.prog 171 #[.pointer (some ⟨p,0,none⟩),.slice (some ⟨m,0,none⟩) k k] (w.alloc (.cells C 2)) λe w'=>e = .returned (.tuple #[])∧∃v',WrTo p w w' v v' (L++ig ns):=by
 subst hk hm;have hb:=ke w (.cells C 2);have hr:(w.alloc (.cells C 2)).heap[w.heap.size]?=some (.cells C 2 (0,0)):=heap_alloc_new _ _;refine(ik _ ns p v L _ (h.pureW hb) ⟨some ⟨w.heap.size,0,none⟩,ns.length,rfl,Nat.le_refl _,.inr ⟨w.heap.size,0,rfl,λi hi=>(by rw[Nat.zero_add];exact(cell_of_row _ _ _ _ _ _ hr).trans (hC i hi))⟩⟩ (λg e=>by
  cases e;exact⟨λe=>by have h1:=h.lt;have h2:w.heap.size=p:=e;omega,λe=>by have h1:=h.lto (show v.ownBlock=some w.heap.size from e);omega⟩) hn hL).mono ?_
 rintro e w' ⟨he,v',h'⟩;exact⟨he,v',WrTo.underW hb h'⟩
theorem oP (s:Int)(p:Nat)(v:Value)(L:List UInt8)(w:World)(hs:0≤s∧s<256)(h:IsWr w p v L)(hL:L.length≤1000000) :
  Calls Tryz.prog 182 #[.pointer (some ⟨p,0,none⟩),.int .u8 s] w λe w'=>e = .returned (.tuple #[])∧∃v',WrTo p w w' v v' (L++lR s):=by
 obtain⟨m,rfl⟩:∃m:Nat,s=(m:Int):=⟨s.toNat,by omega⟩;exact hZ m p v L w (by omega) h (by omega)
theorem oQ (n:List UInt8)(p:Nat)(v:Value)(L:List UInt8)(w:World)(h:IsWr w p v L)(hL:L.length+(lQ n).length≤1000000) :
  Calls Tryz.prog 174 #[.pointer (some ⟨p,0,none⟩),.string ⟨n.toArray⟩] w λe w'=>e = .returned (.tuple #[])∧∃v',WrTo p w w' v v' (L++lQ n):=by
 have e1:(⟨n.toArray⟩:ByteArray).size=n.length:=by show n.toArray.size=_;rw[List.size_toArray]
 have:=ib ⟨n.toArray⟩ p v L w h (by unfold lQ at hL;rw[List.length_append]at hL;rw[e1];omega);unfold lQ;rw[e1]at this;exact this
theorem oR (b:Bool)(p:Nat)(v:Value)(L:List UInt8)(w:World)(h:IsWr w p v L)(hL:L.length≤1000000) :
  Calls Tryz.prog 175 #[.pointer (some ⟨p,0,none⟩),.bool b] w λe w'=>e = .returned (.tuple #[])∧∃v',WrTo p w w' v v' (L++lP b):=by
 have H:=hid h;clear h;cases b
 ·go_enter Tryz.func175,Tryz.ntmps175
  go_wp2_with fail
  refine(oP 0 p v L w (by omega) H.out hL).mono ?_;rintro e w1 ⟨rfl,h1⟩;have H1:=hid h1;clear h1;go_wp2
  go_end0
  exact⟨rfl,H1.out⟩
 ·go_enter Tryz.func175,Tryz.ntmps175
  go_wp2_with fail
  refine(oP 1 p v L w (by omega) H.out hL).mono ?_;rintro e w1 ⟨rfl,h1⟩;have H1:=hid h1;clear h1;go_wp2
  go_end0
  exact⟨rfl,H1.out⟩
theorem oS (w:World)(d:Int):Calls Tryz.prog 195 #[.int .i64 d] w λe w'=>e = .returned (.int .i64 (ma d))∧w'=w:=by
 by_cases h:0<d
 ·have hd:decide (0<d)=true:=by simpa using h
  have e:ma d=wrap64 (2*d):=by unfold ma;rw[if_pos h]
  rw[e];clear h e
  go_enter Tryz.func195,Tryz.ntmps195
  go_wp2;go_ret;exact⟨by unfold wrap64;rfl,rfl⟩
 ·have hd:decide (0<d)=false:=by simpa using h
  have e:ma d=wrap64 (wrap64 (-2*d)-1):=by unfold ma;rw[if_neg h]
  rw[e];clear h e
  go_enter Tryz.func195,Tryz.ntmps195
  go_wp2;go_ret;exact⟨by unfold wrap64;rfl,rfl⟩
set_option maxRecDepth 100000 in
theorem oT (w:World)(r:RowD):Calls Tryz.prog 150 #[r.agg] w λe w'=>e = .returned (lV r).agg∧Below w.heap.size w w':=by
 by_cases h:r.acct=0
 ·have hd:(r.acct == 0)=true:=by simpa using h
  have e:lV r={ r with free:=wrap64 (-r.free) }:=by unfold lV;rw[if_pos h]
  rw[e];unfold RowD.agg;clear h e
  go_enter Tryz.func150,Tryz.ntmps150
  go_wp2;refine bodyPost_ret (v:=.agg #[.int .i64 r.acct,.int .i64 r.asset,.int .i64 (wrap64 (-r.free)),.int .i64 r.held]) (by simp[results,Tryz.results150,go_sem]) rfl ?_;exact⟨rfl,((Below.refl _ _).alloc (Nat.le_refl _) _).alloc (by simp) _⟩
 ·have hd:(r.acct == 0)=false:=by simpa using h
  have e:lV r=r:=by unfold lV;rw[if_neg h]
  rw[e];unfold RowD.agg;clear h e
  go_enter Tryz.func150,Tryz.ntmps150
  go_wp2;refine bodyPost_ret (v:=.agg #[.int .i64 r.acct,.int .i64 r.asset,.int .i64 r.free,.int .i64 r.held]) (by simp[results,Tryz.results150,go_sem]) rfl ?_;exact⟨rfl,((Below.refl _ _).alloc (Nat.le_refl _) _).alloc (by simp) _⟩
set_option maxRecDepth 100000 in
theorem oU (w:World)(p:Nat)(v:Value)(L:List UInt8)(hw:IsWr w p v L)(B0:Nat)(hc:w.cell? ⟨B0,0,none⟩=some (.pointer (some ⟨p,0,none⟩)))(hB:B0≠p∧v.ownBlock≠some B0)(x:AccD)(hL:L.length+(lT x).length≤1000000) :
  Calls Tryz.prog 173 #[x.agg,.pointer (some ⟨B0,0,none⟩)] w λe w'=>e = .returned (.tuple #[])∧∃v',WrTo p w w' v v' (L++lT x):=by
 have hb0:=ke w (.cells #[.string ⟨x.name.toArray⟩,.bool x.opn] 70);have hlt:=hw.lt;have hBlt:=aA hc;have HN:=hid (show ∀b,w.heap.size≤b→v.ownBlock≠some b from λb hb e=>by have:=hw.lto e;omega);have HBB:=hid hB;have hlen:=hL;unfold lT at hlen
 try simp only[List.length_append]at hlen
 have HL:=hid hlen;obtain⟨n,hn⟩:∃n,n=w.heap.size:=⟨_,rfl⟩;obtain⟨W0,hW0⟩:∃W0,W0=w.alloc (.cells #[.string ⟨x.name.toArray⟩,.bool x.opn] 70):=⟨_,rfl⟩;rw[← hW0]at hb0;have k0:W0.heap[n]?=some (.cells #[.string ⟨x.name.toArray⟩,.bool x.opn] 70 (0,0)):=by rw[hW0,hn];exact heap_alloc_new _ _
 have hpn:n≠p:=by omega
 have HSZ:=hid (show W0.heap.size=n+1 from by rw[hW0,hn];simp);have H0:=hid (WrTo.start (hw.pureW hb0));have HB0:=hid hb0;have C0:=hid ((hb0.cell (p:=⟨B0,0,none⟩) hBlt).trans hc);have HD:=hid (λj u (h:(#[.string ⟨x.name.toArray⟩,.bool x.opn]:Array Value)[j]?=some u)=>((cell_of_row _ _ _ _ _ _ k0).trans h:W0.cell? ⟨n,j,none⟩=some u));have HNN:=hid (show v.ownBlock≠some n from HN.out n (by omega));unfold AccD.agg;clear hb0 hlt hL hlen hw k0 hB
 go_enter Tryz.func173,Tryz.ntmps173
 go_wp2_with fail
 rw[← hW0]
 try rw[← hn]
 clear hW0 hn hc;refine(oQ x.name p v L W0 H0.out.is (by have:=HL.out;(try simp only[List.length_append]);omega)).mono ?_;rintro e w1 ⟨rfl,v1,h1⟩;have H1:=hid (H0.out.trans h1);clear h1;have c1:=H1.out.cellx C0.out HBB.out.1 HBB.out.2;have d1_1:=H1.out.cellx (HD.out 1 _ rfl) hpn HNN.out
 go_wp2_with fail
 refine(oR x.opn p v1 (L++lQ x.name) w1 H1.out.is (by have:=HL.out;(try simp only[List.length_append]);omega)).mono ?_;rintro e w2 ⟨rfl,v2,h2⟩;have H2:=hid (H1.out.trans h2);clear h2;clear c1 d1_1;go_wp2
 go_end0
 refine⟨rfl,v2,?_⟩;have:=WrTo.underW HB0.out H2.out;unfold lT;simpa[List.append_assoc]using this
set_option maxRecDepth 100000 in
theorem oV (w:World)(p:Nat)(v:Value)(L:List UInt8)(hw:IsWr w p v L)(B0:Nat)(hc:w.cell? ⟨B0,0,none⟩=some (.pointer (some ⟨p,0,none⟩)))(hB:B0≠p∧v.ownBlock≠some B0)(x:InsD)(hL:L.length+(lU x).length≤1000000) :
  Calls Tryz.prog 177 #[x.agg,.pointer (some ⟨B0,0,none⟩)] w λe w'=>e = .returned (.tuple #[])∧∃v',WrTo p w w' v v' (L++lU x):=by
 have hb0:=ke w (.cells #[.string ⟨x.name.toArray⟩,.int .i64 x.tick,.bool x.halt] 72);have hlt:=hw.lt;have hBlt:=aA hc;have HN:=hid (show ∀b,w.heap.size≤b→v.ownBlock≠some b from λb hb e=>by have:=hw.lto e;omega);have HBB:=hid hB;have hlen:=hL;unfold lU at hlen
 try simp only[List.length_append]at hlen
 have HL:=hid hlen;obtain⟨n,hn⟩:∃n,n=w.heap.size:=⟨_,rfl⟩;obtain⟨W0,hW0⟩:∃W0,W0=w.alloc (.cells #[.string ⟨x.name.toArray⟩,.int .i64 x.tick,.bool x.halt] 72):=⟨_,rfl⟩;rw[← hW0]at hb0;have k0:W0.heap[n]?=some (.cells #[.string ⟨x.name.toArray⟩,.int .i64 x.tick,.bool x.halt] 72 (0,0)):=by rw[hW0,hn];exact heap_alloc_new _ _
 have hpn:n≠p:=by omega
 have HSZ:=hid (show W0.heap.size=n+1 from by rw[hW0,hn];simp);have H0:=hid (WrTo.start (hw.pureW hb0));have HB0:=hid hb0;have C0:=hid ((hb0.cell (p:=⟨B0,0,none⟩) hBlt).trans hc);have HD:=hid (λj u (h:(#[.string ⟨x.name.toArray⟩,.int .i64 x.tick,.bool x.halt]:Array Value)[j]?=some u)=>((cell_of_row _ _ _ _ _ _ k0).trans h:W0.cell? ⟨n,j,none⟩=some u));have HNN:=hid (show v.ownBlock≠some n from HN.out n (by omega));unfold InsD.agg;clear hb0 hlt hL hlen hw k0 hB
 go_enter Tryz.func177,Tryz.ntmps177
 go_wp2_with fail
 rw[← hW0]
 try rw[← hn]
 clear hW0 hn hc;refine(oQ x.name p v L W0 H0.out.is (by have:=HL.out;(try simp only[List.length_append]);omega)).mono ?_;rintro e w1 ⟨rfl,v1,h1⟩;have H1:=hid (H0.out.trans h1);clear h1;have c1:=H1.out.cellx C0.out HBB.out.1 HBB.out.2;have d1_1:=H1.out.cellx (HD.out 1 _ rfl) hpn HNN.out
 go_wp2_with fail
 refine(oO w1 p v1 (L++lQ x.name) H1.out.is w1.heap.size rfl [x.tick] #[.int .i64 x.tick] 1 rfl (by intro j hj;match j,hj with|0,_=>rfl) (by simp) (by have:=HL.out;(try simp only[List.length_append]);omega)).mono ?_;rintro e w2 ⟨rfl,v2,h2⟩;have H2:=hid (H1.out.trans h2);clear h2;clear c1 d1_1;have c2:=H2.out.cellx C0.out HBB.out.1 HBB.out.2;have d2_2:=H2.out.cellx (HD.out 2 _ rfl) hpn HNN.out
 go_wp2_with fail
 refine(oR x.halt p v2 ((L++lQ x.name)++ig [x.tick]) w2 H2.out.is (by have:=HL.out;(try simp only[List.length_append]);omega)).mono ?_;rintro e w3 ⟨rfl,v3,h3⟩;have H3:=hid (H2.out.trans h3);clear h3;clear c2 d2_2;go_wp2
 go_end0
 refine⟨rfl,v3,?_⟩;have:=WrTo.underW HB0.out H3.out;unfold lU;simpa[List.append_assoc]using this
set_option maxRecDepth 100000 in
theorem oW (w:World)(p:Nat)(v:Value)(L:List UInt8)(hw:IsWr w p v L)(B0:Nat)(hc:w.cell? ⟨B0,0,none⟩=some (.pointer (some ⟨p,0,none⟩)))(hB:B0≠p∧v.ownBlock≠some B0)(x:OrdD)(hu8:0≤x.side∧x.side<256)(hL:L.length+(lX x).length≤1000000) :
  Calls Tryz.prog 181 #[x.agg,.pointer (some ⟨B0,0,none⟩)] w λe w'=>e = .returned (.tuple #[])∧∃v',WrTo p w w' v v' (L++lX x):=by
 have hb0:=ke w (.cells #[.int .i64 x.id,.int .i64 x.acct,.int .i64 x.inst,.int .u8 x.side,.int .i64 x.price,.int .i64 x.left] 101);have hlt:=hw.lt;have hBlt:=aA hc;have HN:=hid (show ∀b,w.heap.size≤b→v.ownBlock≠some b from λb hb e=>by have:=hw.lto e;omega);have HBB:=hid hB;have hlen:=hL;unfold lX at hlen
 try simp only[List.length_append]at hlen
 have HL:=hid hlen;obtain⟨n,hn⟩:∃n,n=w.heap.size:=⟨_,rfl⟩;obtain⟨W0,hW0⟩:∃W0,W0=w.alloc (.cells #[.int .i64 x.id,.int .i64 x.acct,.int .i64 x.inst,.int .u8 x.side,.int .i64 x.price,.int .i64 x.left] 101):=⟨_,rfl⟩;rw[← hW0]at hb0;have k0:W0.heap[n]?=some (.cells #[.int .i64 x.id,.int .i64 x.acct,.int .i64 x.inst,.int .u8 x.side,.int .i64 x.price,.int .i64 x.left] 101 (0,0)):=by rw[hW0,hn];exact heap_alloc_new _ _
 have hpn:n≠p:=by omega
 have HSZ:=hid (show W0.heap.size=n+1 from by rw[hW0,hn];simp);have H0:=hid (WrTo.start (hw.pureW hb0));have HB0:=hid hb0;have C0:=hid ((hb0.cell (p:=⟨B0,0,none⟩) hBlt).trans hc);have HD:=hid (λj u (h:(#[.int .i64 x.id,.int .i64 x.acct,.int .i64 x.inst,.int .u8 x.side,.int .i64 x.price,.int .i64 x.left]:Array Value)[j]?=some u)=>((cell_of_row _ _ _ _ _ _ k0).trans h:W0.cell? ⟨n,j,none⟩=some u));have HNN:=hid (show v.ownBlock≠some n from HN.out n (by omega));unfold OrdD.agg;clear hb0 hlt hL hlen hw k0 hB
 go_enter Tryz.func181,Tryz.ntmps181
 go_wp2_with fail
 rw[← hW0]
 try rw[← hn]
 clear hW0 hn hc;refine(oO W0 p v L H0.out.is (n+1) HSZ.out.symm [x.id,x.acct,x.inst] #[.int .i64 x.id,.int .i64 x.acct,.int .i64 x.inst] 3 rfl (by intro j hj;match j,hj with|0,_=>rfl|1,_=>rfl|2,_=>rfl) (by simp) (by have:=HL.out;(try simp only[List.length_append]);omega)).mono ?_;rintro e w1 ⟨rfl,v1,h1⟩;have H1:=hid (H0.out.trans h1);clear h1;have c1:=H1.out.cellx C0.out HBB.out.1 HBB.out.2;have d1_3:=H1.out.cellx (HD.out 3 _ rfl) hpn HNN.out
 go_wp2_with fail
 refine(oP x.side p v1 (L++ig [x.id,x.acct,x.inst]) w1 hu8 H1.out.is (by have:=HL.out;(try simp only[List.length_append]);omega)).mono ?_;rintro e w2 ⟨rfl,v2,h2⟩;have H2:=hid (H1.out.trans h2);clear h2;clear c1 d1_3;have c2:=H2.out.cellx C0.out HBB.out.1 HBB.out.2;have d2_4:=H2.out.cellx (HD.out 4 _ rfl) hpn HNN.out;have d2_5:=H2.out.cellx (HD.out 5 _ rfl) hpn HNN.out
 go_wp2_with fail
 refine(oO w2 p v2 ((L++ig [x.id,x.acct,x.inst])++lR x.side) H2.out.is w2.heap.size rfl [x.price,x.left] #[.int .i64 x.price,.int .i64 x.left] 2 rfl (by intro j hj;match j,hj with|0,_=>rfl|1,_=>rfl) (by simp) (by have:=HL.out;(try simp only[List.length_append]);omega)).mono ?_;rintro e w3 ⟨rfl,v3,h3⟩;have H3:=hid (H2.out.trans h3);clear h3;clear c2 d2_4 d2_5;go_wp2
 go_end0
 refine⟨rfl,v3,?_⟩;have:=WrTo.underW HB0.out H3.out;unfold lX;simpa[List.append_assoc]using this
set_option maxRecDepth 100000 in
theorem oX (w:World)(p:Nat)(v:Value)(L:List UInt8)(hw:IsWr w p v L)(B0:Nat)(hc:w.cell? ⟨B0,0,none⟩=some (.pointer (some ⟨p,0,none⟩)))(hB:B0≠p∧v.ownBlock≠some B0)(x:BidD)(hL:L.length+(lY x).length≤1000000) :
  Calls Tryz.prog 186 #[x.agg,.pointer (some ⟨B0,0,none⟩)] w λe w'=>e = .returned (.tuple #[])∧∃v',WrTo p w w' v v' (L++lY x):=by
 have hb0:=ke w (.cells #[.int .i64 x.acct,.int .i64 x.amount] 150);have hlt:=hw.lt;have hBlt:=aA hc;have HN:=hid (show ∀b,w.heap.size≤b→v.ownBlock≠some b from λb hb e=>by have:=hw.lto e;omega);have HBB:=hid hB;have hlen:=hL;unfold lY at hlen
 try simp only[List.length_append]at hlen
 have HL:=hid hlen;obtain⟨n,hn⟩:∃n,n=w.heap.size:=⟨_,rfl⟩;obtain⟨W0,hW0⟩:∃W0,W0=w.alloc (.cells #[.int .i64 x.acct,.int .i64 x.amount] 150):=⟨_,rfl⟩;rw[← hW0]at hb0;have k0:W0.heap[n]?=some (.cells #[.int .i64 x.acct,.int .i64 x.amount] 150 (0,0)):=by rw[hW0,hn];exact heap_alloc_new _ _
 have hpn:n≠p:=by omega
 have HSZ:=hid (show W0.heap.size=n+1 from by rw[hW0,hn];simp);have H0:=hid (WrTo.start (hw.pureW hb0));have HB0:=hid hb0;have C0:=hid ((hb0.cell (p:=⟨B0,0,none⟩) hBlt).trans hc);have HD:=hid (λj u (h:(#[.int .i64 x.acct,.int .i64 x.amount]:Array Value)[j]?=some u)=>((cell_of_row _ _ _ _ _ _ k0).trans h:W0.cell? ⟨n,j,none⟩=some u));have HNN:=hid (show v.ownBlock≠some n from HN.out n (by omega));unfold BidD.agg;clear hb0 hlt hL hlen hw k0 hB
 go_enter Tryz.func186,Tryz.ntmps186
 go_wp2_with fail
 rw[← hW0]
 try rw[← hn]
 clear hW0 hn hc;refine(oO W0 p v L H0.out.is (n+1) HSZ.out.symm [x.acct,x.amount] #[.int .i64 x.acct,.int .i64 x.amount] 2 rfl (by intro j hj;match j,hj with|0,_=>rfl|1,_=>rfl) (by simp) (by have:=HL.out;(try simp only[List.length_append]);omega)).mono ?_;rintro e w1 ⟨rfl,v1,h1⟩;have H1:=hid (H0.out.trans h1);clear h1;go_wp2
 go_end0
 refine⟨rfl,v1,?_⟩;have:=WrTo.underW HB0.out H1.out;unfold lY;simpa[List.append_assoc]using this
set_option maxRecDepth 100000 in
theorem oY (w:World)(p:Nat)(v:Value)(L:List UInt8)(hw:IsWr w p v L)(B0:Nat)(hc:w.cell? ⟨B0,0,none⟩=some (.pointer (some ⟨p,0,none⟩)))(hB:B0≠p∧v.ownBlock≠some B0)(x:OpnD)(hu8:0≤x.side∧x.side<256)(hL:L.length+(me x).length≤1000000) :
  Calls Tryz.prog 188 #[x.agg,.pointer (some ⟨B0,0,none⟩)] w λe w'=>e = .returned (.tuple #[])∧∃v',WrTo p w w' v v' (L++me x):=by
 have hb0:=ke w (.cells #[.int .i64 x.acct,.int .i64 x.id,.int .i64 x.inst,.int .u8 x.side,.int .i64 x.price,.int .i64 x.left] 106);have hlt:=hw.lt;have hBlt:=aA hc;have HN:=hid (show ∀b,w.heap.size≤b→v.ownBlock≠some b from λb hb e=>by have:=hw.lto e;omega);have HBB:=hid hB;have hlen:=hL;unfold me at hlen
 try simp only[List.length_append]at hlen
 have HL:=hid hlen;obtain⟨n,hn⟩:∃n,n=w.heap.size:=⟨_,rfl⟩;obtain⟨W0,hW0⟩:∃W0,W0=w.alloc (.cells #[.int .i64 x.acct,.int .i64 x.id,.int .i64 x.inst,.int .u8 x.side,.int .i64 x.price,.int .i64 x.left] 106):=⟨_,rfl⟩;rw[← hW0]at hb0;have k0:W0.heap[n]?=some (.cells #[.int .i64 x.acct,.int .i64 x.id,.int .i64 x.inst,.int .u8 x.side,.int .i64 x.price,.int .i64 x.left] 106 (0,0)):=by rw[hW0,hn];exact heap_alloc_new _ _
 have hpn:n≠p:=by omega
 have HSZ:=hid (show W0.heap.size=n+1 from by rw[hW0,hn];simp);have H0:=hid (WrTo.start (hw.pureW hb0));have HB0:=hid hb0;have C0:=hid ((hb0.cell (p:=⟨B0,0,none⟩) hBlt).trans hc);have HD:=hid (λj u (h:(#[.int .i64 x.acct,.int .i64 x.id,.int .i64 x.inst,.int .u8 x.side,.int .i64 x.price,.int .i64 x.left]:Array Value)[j]?=some u)=>((cell_of_row _ _ _ _ _ _ k0).trans h:W0.cell? ⟨n,j,none⟩=some u));have HNN:=hid (show v.ownBlock≠some n from HN.out n (by omega));unfold OpnD.agg;clear hb0 hlt hL hlen hw k0 hB
 go_enter Tryz.func188,Tryz.ntmps188
 go_wp2_with fail
 rw[← hW0]
 try rw[← hn]
 clear hW0 hn hc;refine(oO W0 p v L H0.out.is (n+1) HSZ.out.symm [x.acct,x.id,x.inst] #[.int .i64 x.acct,.int .i64 x.id,.int .i64 x.inst] 3 rfl (by intro j hj;match j,hj with|0,_=>rfl|1,_=>rfl|2,_=>rfl) (by simp) (by have:=HL.out;(try simp only[List.length_append]);omega)).mono ?_;rintro e w1 ⟨rfl,v1,h1⟩;have H1:=hid (H0.out.trans h1);clear h1;have c1:=H1.out.cellx C0.out HBB.out.1 HBB.out.2;have d1_3:=H1.out.cellx (HD.out 3 _ rfl) hpn HNN.out
 go_wp2_with fail
 refine(oP x.side p v1 (L++ig [x.acct,x.id,x.inst]) w1 hu8 H1.out.is (by have:=HL.out;(try simp only[List.length_append]);omega)).mono ?_;rintro e w2 ⟨rfl,v2,h2⟩;have H2:=hid (H1.out.trans h2);clear h2;clear c1 d1_3;have c2:=H2.out.cellx C0.out HBB.out.1 HBB.out.2;have d2_4:=H2.out.cellx (HD.out 4 _ rfl) hpn HNN.out;have d2_5:=H2.out.cellx (HD.out 5 _ rfl) hpn HNN.out
 go_wp2_with fail
 refine(oO w2 p v2 ((L++ig [x.acct,x.id,x.inst])++lR x.side) H2.out.is w2.heap.size rfl [x.price,x.left] #[.int .i64 x.price,.int .i64 x.left] 2 rfl (by intro j hj;match j,hj with|0,_=>rfl|1,_=>rfl) (by simp) (by have:=HL.out;(try simp only[List.length_append]);omega)).mono ?_;rintro e w3 ⟨rfl,v3,h3⟩;have H3:=hid (H2.out.trans h3);clear h3;clear c2 d2_4 d2_5;go_wp2
 go_end0
 refine⟨rfl,v3,?_⟩;have:=WrTo.underW HB0.out H3.out;unfold me;simpa[List.append_assoc]using this
set_option maxRecDepth 100000 in
theorem oZ (w:World)(p:Nat)(v:Value)(L:List UInt8)(hw:IsWr w p v L)(B0:Nat)(hc:w.cell? ⟨B0,0,none⟩=some (.pointer (some ⟨p,0,none⟩)))(hB:B0≠p∧v.ownBlock≠some B0)(x:LotD)(hL:L.length+(mf x).length≤1000000) :
  Calls Tryz.prog 190 #[x.agg,.pointer (some ⟨B0,0,none⟩)] w λe w'=>e = .returned (.tuple #[])∧∃v',WrTo p w w' v v' (L++mf x):=by
 have hb0:=ke w (.cells #[.int .i64 x.id,.int .i64 x.seller,.int .i64 x.inst,.int .i64 x.qty] 109);have hlt:=hw.lt;have hBlt:=aA hc;have HN:=hid (show ∀b,w.heap.size≤b→v.ownBlock≠some b from λb hb e=>by have:=hw.lto e;omega);have HBB:=hid hB;have hlen:=hL;unfold mf at hlen
 try simp only[List.length_append]at hlen
 have HL:=hid hlen;obtain⟨n,hn⟩:∃n,n=w.heap.size:=⟨_,rfl⟩;obtain⟨W0,hW0⟩:∃W0,W0=w.alloc (.cells #[.int .i64 x.id,.int .i64 x.seller,.int .i64 x.inst,.int .i64 x.qty] 109):=⟨_,rfl⟩;rw[← hW0]at hb0;have k0:W0.heap[n]?=some (.cells #[.int .i64 x.id,.int .i64 x.seller,.int .i64 x.inst,.int .i64 x.qty] 109 (0,0)):=by rw[hW0,hn];exact heap_alloc_new _ _
 have hpn:n≠p:=by omega
 have HSZ:=hid (show W0.heap.size=n+1 from by rw[hW0,hn];simp);have H0:=hid (WrTo.start (hw.pureW hb0));have HB0:=hid hb0;have C0:=hid ((hb0.cell (p:=⟨B0,0,none⟩) hBlt).trans hc);have HD:=hid (λj u (h:(#[.int .i64 x.id,.int .i64 x.seller,.int .i64 x.inst,.int .i64 x.qty]:Array Value)[j]?=some u)=>((cell_of_row _ _ _ _ _ _ k0).trans h:W0.cell? ⟨n,j,none⟩=some u));have HNN:=hid (show v.ownBlock≠some n from HN.out n (by omega));unfold LotD.agg;clear hb0 hlt hL hlen hw k0 hB
 go_enter Tryz.func190,Tryz.ntmps190
 go_wp2_with fail
 rw[← hW0]
 try rw[← hn]
 clear hW0 hn hc;refine(oO W0 p v L H0.out.is (n+1) HSZ.out.symm [x.id,x.seller,x.inst,x.qty] #[.int .i64 x.id,.int .i64 x.seller,.int .i64 x.inst,.int .i64 x.qty] 4 rfl (by intro j hj;match j,hj with|0,_=>rfl|1,_=>rfl|2,_=>rfl|3,_=>rfl) (by simp) (by have:=HL.out;(try simp only[List.length_append]);omega)).mono ?_;rintro e w1 ⟨rfl,v1,h1⟩;have H1:=hid (H0.out.trans h1);clear h1;go_wp2
 go_end0
 refine⟨rfl,v1,?_⟩;have:=WrTo.underW HB0.out H1.out;unfold mf;simpa[List.append_assoc]using this
set_option maxRecDepth 100000 in
theorem pa (w:World)(p:Nat)(v:Value)(L:List UInt8)(hw:IsWr w p v L)(B0:Nat)(hc:w.cell? ⟨B0,0,none⟩=some (.pointer (some ⟨p,0,none⟩)))(hB:B0≠p∧v.ownBlock≠some B0)(x:PosD)(hL:L.length+(mg x).length≤1000000) :
  Calls Tryz.prog 192 #[x.agg,.pointer (some ⟨B0,0,none⟩)] w λe w'=>e = .returned (.tuple #[])∧∃v',WrTo p w w' v v' (L++mg x):=by
 have hb0:=ke w (.cells #[.int .i64 x.acct,.int .i64 x.inst,.int .i64 x.bought,.int .i64 x.sold,.int .i64 x.spent,.int .i64 x.got] 112);have hlt:=hw.lt;have hBlt:=aA hc;have HN:=hid (show ∀b,w.heap.size≤b→v.ownBlock≠some b from λb hb e=>by have:=hw.lto e;omega);have HBB:=hid hB;have hlen:=hL;unfold mg at hlen
 try simp only[List.length_append]at hlen
 have HL:=hid hlen;obtain⟨n,hn⟩:∃n,n=w.heap.size:=⟨_,rfl⟩;obtain⟨W0,hW0⟩:∃W0,W0=w.alloc (.cells #[.int .i64 x.acct,.int .i64 x.inst,.int .i64 x.bought,.int .i64 x.sold,.int .i64 x.spent,.int .i64 x.got] 112):=⟨_,rfl⟩;rw[← hW0]at hb0;have k0:W0.heap[n]?=some (.cells #[.int .i64 x.acct,.int .i64 x.inst,.int .i64 x.bought,.int .i64 x.sold,.int .i64 x.spent,.int .i64 x.got] 112 (0,0)):=by rw[hW0,hn];exact heap_alloc_new _ _
 have hpn:n≠p:=by omega
 have HSZ:=hid (show W0.heap.size=n+1 from by rw[hW0,hn];simp);have H0:=hid (WrTo.start (hw.pureW hb0));have HB0:=hid hb0;have C0:=hid ((hb0.cell (p:=⟨B0,0,none⟩) hBlt).trans hc);have HD:=hid (λj u (h:(#[.int .i64 x.acct,.int .i64 x.inst,.int .i64 x.bought,.int .i64 x.sold,.int .i64 x.spent,.int .i64 x.got]:Array Value)[j]?=some u)=>((cell_of_row _ _ _ _ _ _ k0).trans h:W0.cell? ⟨n,j,none⟩=some u));have HNN:=hid (show v.ownBlock≠some n from HN.out n (by omega));unfold PosD.agg;clear hb0 hlt hL hlen hw k0 hB
 go_enter Tryz.func192,Tryz.ntmps192
 go_wp2_with fail
 rw[← hW0]
 try rw[← hn]
 clear hW0 hn hc;refine(oO W0 p v L H0.out.is (n+1) HSZ.out.symm [x.acct,x.inst,x.bought,x.sold,x.spent,x.got] #[.int .i64 x.acct,.int .i64 x.inst,.int .i64 x.bought,.int .i64 x.sold,.int .i64 x.spent,.int .i64 x.got] 6 rfl (by intro j hj;match j,hj with|0,_=>rfl|1,_=>rfl|2,_=>rfl|3,_=>rfl|4,_=>rfl|5,_=>rfl) (by simp) (by have:=HL.out;(try simp only[List.length_append]);omega)).mono ?_;rintro e w1 ⟨rfl,v1,h1⟩;have H1:=hid (H0.out.trans h1);clear h1;go_wp2
 go_end0
 refine⟨rfl,v1,?_⟩;have:=WrTo.underW HB0.out H1.out;unfold mg;simpa[List.append_assoc]using this
set_option maxRecDepth 100000 in
theorem pb (w:World)(p:Nat)(v:Value)(L:List UInt8)(hw:IsWr w p v L)(B0:Nat)(hc:w.cell? ⟨B0,0,none⟩=some (.pointer (some ⟨p,0,none⟩)))(hB:B0≠p∧v.ownBlock≠some B0)(x:LinD)(hu8:0≤x.kind∧x.kind<256)(hL:L.length+(mh x).length≤1000000) :
  Calls Tryz.prog 194 #[x.agg,.pointer (some ⟨B0,0,none⟩)] w λe w'=>e = .returned (.tuple #[])∧∃v',WrTo p w w' v v' (L++mh x):=by
 have hb0:=ke w (.cells #[.int .i64 x.acct,.int .i64 x.seq,.int .u8 x.kind,.int .i64 x.delta,.int .i64 x.balance] 115);have hlt:=hw.lt;have hBlt:=aA hc;have HN:=hid (show ∀b,w.heap.size≤b→v.ownBlock≠some b from λb hb e=>by have:=hw.lto e;omega);have HBB:=hid hB;have hlen:=hL;unfold mh at hlen
 try simp only[List.length_append]at hlen
 have HL:=hid hlen;obtain⟨n,hn⟩:∃n,n=w.heap.size:=⟨_,rfl⟩;obtain⟨W0,hW0⟩:∃W0,W0=w.alloc (.cells #[.int .i64 x.acct,.int .i64 x.seq,.int .u8 x.kind,.int .i64 x.delta,.int .i64 x.balance] 115):=⟨_,rfl⟩;rw[← hW0]at hb0;have k0:W0.heap[n]?=some (.cells #[.int .i64 x.acct,.int .i64 x.seq,.int .u8 x.kind,.int .i64 x.delta,.int .i64 x.balance] 115 (0,0)):=by rw[hW0,hn];exact heap_alloc_new _ _
 have hpn:n≠p:=by omega
 have HSZ:=hid (show W0.heap.size=n+1 from by rw[hW0,hn];simp);have H0:=hid (WrTo.start (hw.pureW hb0));have HB0:=hid hb0;have C0:=hid ((hb0.cell (p:=⟨B0,0,none⟩) hBlt).trans hc);have HD:=hid (λj u (h:(#[.int .i64 x.acct,.int .i64 x.seq,.int .u8 x.kind,.int .i64 x.delta,.int .i64 x.balance]:Array Value)[j]?=some u)=>((cell_of_row _ _ _ _ _ _ k0).trans h:W0.cell? ⟨n,j,none⟩=some u));have HNN:=hid (show v.ownBlock≠some n from HN.out n (by omega));unfold LinD.agg;clear hb0 hlt hL hlen hw k0 hB
 go_enter Tryz.func194,Tryz.ntmps194
 go_wp2_with fail
 rw[← hW0]
 try rw[← hn]
 clear hW0 hn hc;refine(oO W0 p v L H0.out.is (n+1) HSZ.out.symm [x.acct,x.seq] #[.int .i64 x.acct,.int .i64 x.seq] 2 rfl (by intro j hj;match j,hj with|0,_=>rfl|1,_=>rfl) (by simp) (by have:=HL.out;(try simp only[List.length_append]);omega)).mono ?_;rintro e w1 ⟨rfl,v1,h1⟩;have H1:=hid (H0.out.trans h1);clear h1;have c1:=H1.out.cellx C0.out HBB.out.1 HBB.out.2;have d1_2:=H1.out.cellx (HD.out 2 _ rfl) hpn HNN.out
 go_wp2_with fail
 refine(oP x.kind p v1 (L++ig [x.acct,x.seq]) w1 hu8 H1.out.is (by have:=HL.out;(try simp only[List.length_append]);omega)).mono ?_;rintro e w2 ⟨rfl,v2,h2⟩;have H2:=hid (H1.out.trans h2);clear h2;clear c1 d1_2;have c2:=H2.out.cellx C0.out HBB.out.1 HBB.out.2;have d2_3:=H2.out.cellx (HD.out 3 _ rfl) hpn HNN.out;have d2_4:=H2.out.cellx (HD.out 4 _ rfl) hpn HNN.out
 go_wp2_with fail
 have HDW:=hid (show IsWr w2.drew p v2 ((L++ig [x.acct,x.seq])++lR x.kind)from⟨H2.out.is.cell,H2.out.is.own,H2.out.is.ne⟩)
 go_region_held3 (λw'=>w'.cell? ⟨B0,0,none⟩=some (.pointer (some ⟨p,0,none⟩))∧w'.cell? ⟨n,3,none⟩=some (.int .i64 x.delta)∧w'.cell? ⟨n,4,none⟩=some (.int .i64 x.balance)) (first|exact⟨c2,d2_3,d2_4⟩|exact⟨H3.out.cellx C0.out HBB.out.1 HBB.out.2,H3.out.cellx (HD.out 3 _ rfl) hpn HNN.out,H3.out.cellx (HD.out 4 _ rfl) hpn HNN.out⟩|go_keep) (first
  | (go_at_call 195;refine(oS _ x.delta).mono ?_;rintro e w9 ⟨rfl,rfl⟩)
  | (go_at_call 171;refine(oO w2.drew p v2 ((L++ig [x.acct,x.seq])++lR x.kind) HDW.out w2.heap.size rfl [ma x.delta,x.balance] #[.int .i64 (ma x.delta),.int .i64 x.balance] 2 rfl (by intro j hj;match j,hj with|0,_=>rfl|1,_=>rfl) (by simp) (by have:=HL.out;(try simp only[List.length_append]);omega)).mono ?_;rintro e w3 ⟨rfl,v3,h3⟩;have H3:=hid (H2.out.trans (WrTo.underW ((Below.refl _ _).drew) h3));clear h3))
 go_wp2
 go_end0
 refine⟨rfl,v3,?_⟩;have:=WrTo.underW HB0.out H3.out;unfold mh;simpa[List.append_assoc]using this
set_option maxRecDepth 100000 in
theorem pc (w:World)(p:Nat)(v:Value)(L:List UInt8)(hw:IsWr w p v L)(B0:Nat)(hc:w.cell? ⟨B0,0,none⟩=some (.pointer (some ⟨p,0,none⟩)))(_:B0≠p∧v.ownBlock≠some B0)(x:RowD)(hL:L.length+(lW x).length≤1000000) :
  Calls Tryz.prog 179 #[x.agg,.pointer (some ⟨B0,0,none⟩)] w λe w'=>e = .returned (.tuple #[])∧∃v',WrTo p w w' v v' (L++lW x):=by
 have hlt:=hw.lt;have hBlt:=aA hc;have HN:=hid (show ∀b,w.heap.size≤b→v.ownBlock≠some b from λb hb e=>by have:=hw.lto e;omega);obtain⟨n,hn⟩:∃n,n=w.heap.size:=⟨_,rfl⟩;obtain⟨W0,hW0⟩:∃W0,W0=w.alloc (.cells #[.int .i64 x.acct,.int .i64 x.asset,.int .i64 x.free,.int .i64 x.held] 98):=⟨_,rfl⟩;have hb0:Below w.heap.size w W0:=by rw[hW0];exact ke _ _
 have k0:W0.heap[n]?=some (.cells #[.int .i64 x.acct,.int .i64 x.asset,.int .i64 x.free,.int .i64 x.held] 98 (0,0)):=by rw[hW0,hn];exact heap_alloc_new _ _
 have K0:=hid k0;have HB0:=hid hb0;have HW:=hid hw;have C0:=hid ((hb0.cell (p:=⟨B0,0,none⟩) hBlt).trans hc);have hlen:=hL;have HBW:=hid (oT W0 x);obtain⟨y,hy⟩:∃y,y=lV x:=⟨_,rfl⟩;have hrb:lW x=ig [y.acct,y.asset,y.free,y.held]:=by
  rw[hy];unfold lW lV
  split<;>rfl
 rw[hrb]at hlen;have HY:=hid hrb;have HL:=hid hlen;rw[← hy]at HBW;unfold RowD.agg at HBW ⊢;have HNE:=hid (show n≠p∧n≠B0∧v.ownBlock≠some n from⟨by omega,by omega,HN.out n (by omega)⟩);have HNW:=hid hn;clear hlt hL hw k0 hb0 hy hBlt hrb hlen
 go_enter Tryz.func179,Tryz.ntmps179
 go_wp2_with fail
 rw[← hW0]
 try rw[← hn]
 clear hW0 hn hc;refine HBW.out.mono ?_;rintro e w1 ⟨rfl,hb1⟩;have k1:=(hb1.block _ (lt_of_block K0.out)).trans K0.out;have z0:=frozen_of_row _ n 0 _ _ k1;have z1:=frozen_of_row _ n 1 _ _ k1;have z2:=frozen_of_row _ n 2 _ _ k1;have z3:=frozen_of_row _ n 3 _ _ k1;have q0:=(cell_of_row _ n 0 _ _ _ k1).trans (show _=some (.int .i64 x.acct)from rfl);have q1:=(cell_of_row _ n 1 _ _ _ k1).trans (show _=some (.int .i64 x.asset)from rfl);have q2:=(cell_of_row _ n 2 _ _ _ k1).trans (show _=some (.int .i64 x.free)from rfl);have q3:=(cell_of_row _ n 3 _ _ _ k1).trans (show _=some (.int .i64 x.held)from rfl);have cp:w1.cell? ⟨B0,0,none⟩=some (.pointer (some ⟨p,0,none⟩)):=(hb1.cell (p:=⟨B0,0,none⟩) (aA C0.out)).trans C0.out;obtain⟨W2,hW2⟩:∃W2,W2=iY w1 n (.int .i64 y.acct) (.int .i64 y.asset) (.int .i64 y.free) (.int .i64 y.held):=⟨_,rfl⟩;have f2:Fr (λk=>k=n) w1 W2:=by rw[hW2];exact iZ _ _ _ _ _ _
 have hb01:=HB0.out.trans (hb1.mono HB0.out.size);have HB2:=hid (show Below w.heap.size w W2 from hb01.trans (f2.below (B:=w.heap.size) hb01.size (λk hk e=>by have:=HNW.out;omega)));have HW2:=hid (HW.out.pureW HB2.out);have HSZ:=hid (show W2.heap.size=w1.heap.size from by rw[hW2];simp[iY]);have hne:=HNE.out.2.1;unfold iY at hW2;clear hb1 k1 f2 hb01;have HEQ:=hid hW2;clear hW2
 go_wp2_with fail
 rw[← HEQ.out];refine(oO W2 p v L HW2.out w1.heap.size HSZ.out.symm [y.acct,y.asset,y.free,y.held] #[.int .i64 y.acct,.int .i64 y.asset,.int .i64 y.free,.int .i64 y.held] 4 rfl (by intro j hj;match j,hj with|0,_=>rfl|1,_=>rfl|2,_=>rfl|3,_=>rfl) (by simp) (by have:=HL.out;omega)).mono ?_;rintro e w5 ⟨rfl,v5,h5⟩;have H5:=hid h5;clear h5;go_wp2
 go_end0
 exact⟨rfl,v5,by rw[HY.out];exact WrTo.underW HB2.out H5.out⟩
set_option maxRecDepth 100000 in
theorem pd (F:Nat→Prop)(w:World)(p:Nat)(v:Value)(L:List UInt8)(hw:IsWr w p v L)(B0:Nat)(hc:w.cell? ⟨B0,0,none⟩=some (.pointer (some ⟨p,0,none⟩)))(hB:B0≠p∧v.ownBlock≠some B0)(x:AucD)(bv:Value)(hbv:BidsAt F w bv x.bids)(hF:∀g,F g→g<w.heap.size∧g≠p∧v.ownBlock≠some g)(hbl:x.bids.length≤4398046511104)(hL:L.length+(lZ x).length≤1000000) :
  Calls Tryz.prog 184 #[x.agg bv,.pointer (some ⟨B0,0,none⟩)] w λe w'=>e = .returned (.tuple #[])∧∃v',WrTo p w w' v v' (L++lZ x):=by
 obtain⟨ba,bc,rfl⟩:=hbv.shape;have hmf:∀(fn:Fn) (first cap:Array Value) (w:World),(Instr.makeFunc fn first cap).run Tryz.prog w = .ok (.func fn first cap) w:=λ_ _ _ _=>rfl;have hb0:=ke w (.cells #[.int .i64 x.id,.int .i64 x.seller,.int .i64 x.inst,.bool x.sealed,.int .i64 x.qty,.int .i64 x.reserve,.int .i64 x.step,.int .i64 x.fin,.slice ba x.bids.length bc] 68);have hlt:=hw.lt;have hBlt:=aA hc;have HN:=hid (show ∀b,w.heap.size≤b→v.ownBlock≠some b from λb hb e=>by have:=hw.lto e;omega);have HBB:=hid hB;have HFF:=hid hF;have hlen:=hL;unfold lZ at hlen;simp only[List.length_append]at hlen;have HL:=hid hlen;obtain⟨n,hn⟩:∃n,n=w.heap.size:=⟨_,rfl⟩;obtain⟨W0,hW0⟩:∃W0,W0=w.alloc (.cells #[.int .i64 x.id,.int .i64 x.seller,.int .i64 x.inst,.bool x.sealed,.int .i64 x.qty,.int .i64 x.reserve,.int .i64 x.step,.int .i64 x.fin,.slice ba x.bids.length bc] 68):=⟨_,rfl⟩;rw[← hW0]at hb0;have k0:W0.heap[n]?=some (.cells #[.int .i64 x.id,.int .i64 x.seller,.int .i64 x.inst,.bool x.sealed,.int .i64 x.qty,.int .i64 x.reserve,.int .i64 x.step,.int .i64 x.fin,.slice ba x.bids.length bc] 68 (0,0)):=by rw[hW0,hn];exact heap_alloc_new _ _
 have hpn:n≠p:=by omega
 have HSZ:=hid (show W0.heap.size=n+1 from by rw[hW0,hn];simp);have H0:=hid (WrTo.start (hw.pureW hb0));have HB0:=hid hb0;have HBV:=hid (hbv.pure hb0);have HBS:=hid (show w.heap.size≤W0.heap.size from hb0.size);have HBL:=hid hBlt;have C0:=hid ((hb0.cell (p:=⟨B0,0,none⟩) hBlt).trans hc);have HD:=hid (λj u (h:(#[.int .i64 x.id,.int .i64 x.seller,.int .i64 x.inst,.bool x.sealed,.int .i64 x.qty,.int .i64 x.reserve,.int .i64 x.step,.int .i64 x.fin,.slice ba x.bids.length bc]:Array Value)[j]?=some u)=>((cell_of_row _ _ _ _ _ _ k0).trans h:W0.cell? ⟨n,j,none⟩=some u));have HNN:=hid (show v.ownBlock≠some n from HN.out n (by omega));unfold AucD.agg;clear hb0 hlt hL hlen hw k0 hB hbv hF
 go_enter Tryz.func184,Tryz.ntmps184
 go_wp2_with fail
 rw[← hW0]
 try rw[← hn]
 clear hW0 hn hc hBlt;refine(oO W0 p v L H0.out.is (n+1) HSZ.out.symm [x.id,x.seller,x.inst] #[.int .i64 x.id,.int .i64 x.seller,.int .i64 x.inst] 3 rfl (by intro j hj;match j,hj with|0,_=>rfl|1,_=>rfl|2,_=>rfl) (by simp) (by have:=HL.out;omega)).mono ?_;rintro e w1 ⟨rfl,v1,h1⟩;have H1:=hid (H0.out.trans h1);clear h1;have c1:=H1.out.cellx C0.out HBB.out.1 HBB.out.2;have d1_3:=H1.out.cellx (HD.out 3 _ rfl) hpn HNN.out
 go_wp2_with fail
 refine(oR x.sealed p v1 (L++ig [x.id,x.seller,x.inst]) w1 H1.out.is (by have:=HL.out;simp only[List.length_append];omega)).mono ?_;rintro e w2 ⟨rfl,v2,h2⟩;have H2:=hid (H1.out.trans h2);clear h2 c1 d1_3;have c2:=H2.out.cellx C0.out HBB.out.1 HBB.out.2;have d2_4:=H2.out.cellx (HD.out 4 _ rfl) hpn HNN.out;have d2_5:=H2.out.cellx (HD.out 5 _ rfl) hpn HNN.out;have d2_6:=H2.out.cellx (HD.out 6 _ rfl) hpn HNN.out;have d2_7:=H2.out.cellx (HD.out 7 _ rfl) hpn HNN.out
 go_wp2_with fail
 refine(oO w2 p v2 ((L++ig [x.id,x.seller,x.inst])++lP x.sealed) H2.out.is w2.heap.size rfl [x.qty,x.reserve,x.step,x.fin] #[.int .i64 x.qty,.int .i64 x.reserve,.int .i64 x.step,.int .i64 x.fin] 4 rfl (by intro j hj;match j,hj with|0,_=>rfl|1,_=>rfl|2,_=>rfl|3,_=>rfl) (by simp) (by have:=HL.out;simp only[List.length_append];omega)).mono ?_;rintro e w3 ⟨rfl,v3,h3⟩;have H3:=hid (H2.out.trans h3);clear h3 c2 d2_4 d2_5 d2_6 d2_7;have c3:=H3.out.cellx C0.out HBB.out.1 HBB.out.2;have d3_8:=H3.out.cellx (HD.out 8 _ rfl) hpn HNN.out;have HV3:=hid (show ∀g,g<w.heap.size→v.ownBlock≠some g→v3.ownBlock≠some g from λg hg hn e=>hn (H3.out.went.old (by have:=HBS.out;omega) e));have HC3:=hid c3;have HMA:=hid (oH F w3 p v3 (((L++ig [x.id,x.seller,x.inst])++lP x.sealed)++ig [x.qty,x.reserve,x.step,x.fin]) H3.out.is (.slice ba x.bids.length bc) x.bids (HBV.out.kept H3.out.fr (λg hg e=>by rcases e with e|e;exact(HFF.out g hg).2.1 e;exact(HFF.out g hg).2.2 e)) (λg hg=>⟨(HFF.out g hg).2.1,HV3.out g (HFF.out g hg).1 (HFF.out g hg).2.2⟩) hbl 186 (.pointer (some ⟨B0,0,none⟩)) (enters_of Tryz.func186 (by kernel_rfl) rfl) lY (by have:=HL.out;simp only[List.length_append];omega)
  (λW v4 L4 k hk hwt hl=>oX W p v4 L4 hwt.is B0 (hwt.cellx HC3.out HBB.out.1 (HV3.out B0 HBL.out HBB.out.2)) ⟨HBB.out.1,λe=>HV3.out B0 HBL.out HBB.out.2 (hwt.went.old (aA HC3.out) e)⟩ x.bids[k] hl))
 go_wp2_with fail
 refine HMA.out.mono ?_;rintro e w4 ⟨rfl,v4,h4⟩;have H4:=hid (H3.out.trans h4);clear h4;go_wp2
 go_end0
 refine⟨rfl,v4,?_⟩;have:=WrTo.underW HB0.out H4.out;unfold lZ;simpa[List.append_assoc]using this
end
end Go.Proofs.YtaeakdichkhjaaaGreatDoor
