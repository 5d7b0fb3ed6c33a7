/- The walk of the law MaintNames, to its end. -/
import Derived.Test.YthjjgcfdhkhelaaGreatDoorQBn
set_option maxHeartbeats 8000000
set_option maxRecDepth 100000
open Go.Lib(hid)
open Go.Proofs.Tryz
namespace Go.Proofs.YthjjgcfdhkhelaaGreatDoor
section
open Go.RowKit
theorem D1 {w0 w:World}(hl:vN w0)(hk:uL w0){p b:Nat}(h:xG w0 w p b mxS.1) :
  Calls prog 7 #[.pointer (some ⟨p,0,none⟩),.agg #[.int .i64 64,.int .i64 1,.int .u8 3]] w λe w'=>e = .returned (.tuple #[.int .i64 2,.int .i64 0])∧xG w0 w' p b mxS.1∧dY p b w w':=DN hl hk h
theorem D2 {w0 w:World}(hl:vN w0)(hk:uL w0){p b:Nat}(h:xG w0 w p b mxS.1) :
  Calls prog 6 #[.pointer (some ⟨p,0,none⟩),.agg #[.int .i64 64,.int .i64 1,.int .u8 3]] w λe w'=>∃g F,e = .returned (.tuple #[.pointer (some ⟨g,0,none⟩),.int .i64 0])∧xy w0 w' F g p b rJ.1 mxK∧dY p b w w':=DM hl hk h
theorem D3 {w0 w:World}(hl:vN w0)(hz:xB w0){p b:Nat}(h:xG w0 w p b rN.1) :
  Calls prog 5 #[.pointer (some ⟨p,0,none⟩),.agg #[.int .i64 64,.int .i64 1,.int .u8 3]] w λe w'=>∃g F,e = .returned (.tuple #[.pointer (some ⟨g,0,none⟩),.int .i64 0])∧xy w0 w' F g p b mxH.1 mxJ∧dY p b w w':=DZ hl hz h
theorem D4 {w:World}{F:Nat→Prop}{g p:Nat}(h:sX w F g p mxK) :
  Calls prog 15 #[.pointer (some ⟨g,0,none⟩)] w λe w'=>∃b c,e = .returned (.agg #[.int .i64 1,.slice (some ⟨b,0,none⟩) 4 c])∧w'.cell? ⟨b,2,none⟩=some (.int .i64 1)∧w'.cell? ⟨b,3,none⟩=some (.int .i64 2)∧w'.cell? ⟨b,4,none⟩=some (.int .i64 0)∧w'.cell? ⟨b,5,none⟩=some (.int .i64 4)∧Below w.heap.size w w':=by
 refine(tm w F g p mxK h (by decide) (by decide)).mono ?_;rintro e w' ⟨v,rfl,ho,_,hb⟩
 rcases ho.2 with⟨hv,hn⟩|⟨g',cap,cur,rfl,_⟩
 ·cases hn
 ·have h1:=ho.at
  obtain⟨_,_,e1,a1,a2,_⟩:=h1.at 1 (by decide);obtain⟨_,_,e2,b1,b2,_⟩:=h1.at 2 (by decide);cases e1;cases e2;exact⟨g',cap,rfl,a1,a2,b1,b2,hb⟩
theorem D5 (b c:Nat)(w:World):(Instr.field 42 (.agg #[.int .i64 1,.slice (some ⟨b,0,none⟩) 4 c]) 0).run prog w = .ok (.int .i64 1) w:=by kernel_rfl
theorem D6 (b c:Nat)(w:World):(Instr.field 42 (.agg #[.int .i64 1,.slice (some ⟨b,0,none⟩) 4 c]) 1).run prog w = .ok (.slice (some ⟨b,0,none⟩) 4 c) w:=by kernel_rfl
theorem D7 {w:World}{p b:Nat}{st:cZ}(h:db w p b st){s:ByteArray}(hs:s.size≤100)(h0:(eI st s.data.toList).2=0) :
  Calls prog 16 #[.pointer (some ⟨p,0,none⟩),.string s] w λe w'=>e = .returned (.bool true)∧Below w.heap.size w w':=by
 refine(zh w p b st h s hs).mono ?_;rw[h0];exact λ_ _ h=>h
theorem D8 {w:World}{p b:Nat}{st:cZ}(h:db w p b st){s:ByteArray}(hs:s.size≤100)(h0:(eI st s.data.toList).2≠0) :
  Calls prog 16 #[.pointer (some ⟨p,0,none⟩),.string s] w λe w'=>e = .returned (.bool false)∧Below w.heap.size w w':=by
 refine(zh w p b st h s hs).mono ?_;rw[show((eI st s.data.toList).2 == 0)=false from by simpa using h0];exact λ_ _ h=>h
theorem D9 {w0 W:World}{p b:Nat}{st:cZ}(h:xG w0 W p b st)(hl:xB w0)(q c:Nat)(hq:q≤1048576)(hc:c<128) :
  Calls prog 18 #[.pointer (some ⟨p,0,none⟩),.int .i64 (q:Int),AZ (c:Int) 0 1 1,A5] W λe w'=>e = .returned (.int .i64 (qO st (q:Int) (qQ q c,0)).2)∧xG w0 w' p b (qO st (q:Int) (qQ q c,0)).1∧dY p b W w':=by
 obtain⟨h1,h2⟩:=h.lz hl;refine(Dt W h1 p b st h.dk h2 (q:Int) (qQ q c) (by rw[Dv];omega) (Du W q c hq hc)).mono ?_;rintro e w' ⟨h3,h4,h5⟩;exact⟨h3,h.op h4 h5,h5⟩
theorem Ea:qO rJ.1 ((1:Nat):Int) (qQ 1 10,0)=(rM.1,0):=(Dx rO.1:rM=(rM.1,0))
theorem Eb:qO rM.1 ((5:Nat):Int) (qQ 5 50,0)=(rN.1,0):=(Dx rO.2.1:rN=(rN.1,0))
theorem Ec {w0 W:World}{p b:Nat}(h:xG w0 W p b rJ.1)(hl:xB w0) :
  Calls prog 18 #[.pointer (some ⟨p,0,none⟩),.int .i64 1,.agg #[.int .i64 10,.int .i64 0,.int .i64 1,.int .i64 1,.slice none 0 0,.slice none 0 0,.slice none 0 0,.slice none 0 0,.slice none 0 0],.agg #[.slice none 0 0,.slice none 0 0,.slice none 0 0,.slice none 0 0]] W λe w'=>e = .returned (.int .i64 0)∧xG w0 w' p b rM.1∧dY p b W w':=by
 have h1:=D9 h hl 1 10 (by omega) (by omega);rw[Ea]at h1;exact h1
theorem Ed {w0 W:World}{p b:Nat}(h:xG w0 W p b rM.1)(hl:xB w0) :
  Calls prog 18 #[.pointer (some ⟨p,0,none⟩),.int .i64 5,.agg #[.int .i64 50,.int .i64 0,.int .i64 1,.int .i64 1,.slice none 0 0,.slice none 0 0,.slice none 0 0,.slice none 0 0,.slice none 0 0],.agg #[.slice none 0 0,.slice none 0 0,.slice none 0 0,.slice none 0 0]] W λe w'=>e = .returned (.int .i64 0)∧xG w0 w' p b rN.1∧dY p b W w':=by
 have h1:=D9 h hl 5 50 (by omega) (by omega);rw[Eb]at h1;exact h1
def nmA:ByteArray:=⟨#[115,48,48,48,48,48,48,48,49,45,48,48,48,48,48,48,48,48,48,50]⟩
def nmB:ByteArray:=⟨#[115,48,48,48,48,48,48,48,48,45,48,48,48,48,48,48,48,48,48,50]⟩
def nmC:ByteArray:=⟨#[110,48,48,48,48,48,48,48,48,48,49]⟩
def nmD:ByteArray:=⟨#[110,48,48,48,48,48,48,48,48,48,53]⟩
theorem Ee:nmA.data.toList=b9 1 2∧nmB.data.toList=b9 0 2∧nmC.data.toList=qc 1∧nmD.data.toList=qc 5:=by decide +kernel
theorem Ef:(eI rJ.1 nmA.data.toList).2=0:=by rw[Ee.1];exact rL.1
theorem Eg:(eI rJ.1 nmB.data.toList).2≠0:=by rw[Ee.2.1];exact rL.2
theorem Eh:(eI mxH.1 nmC.data.toList).2≠0:=by rw[Ee.2.2.1];exact rT.1
theorem Ei:(eI mxH.1 nmD.data.toList).2=0:=by rw[Ee.2.2.2];exact rT.2.1
theorem Ej:(eI mxH.1 nmA.data.toList).2≠0:=by rw[Ee.1];exact rT.2.2
theorem Ek (w:World)(hl:vN w)(hz:xB w)(hk:uL w):Calls prog 4 #[] w λe w'=>e = .returned (.bool true)∧Below w.heap.size w w':=by
 have HL:=hid hl;have HZ:=hid hz;have HK:=hid hk;have hf0:=D5;have hf1:=D6;clear hl hz hk
 go_enter func4,ntmps4
 go_wp2_with fail
 refine(zE w HL.out HK.out).mono ?_;rintro e w1 ⟨p,b,rfl,ho1⟩;obtain⟨n,hn⟩:∃n,n=w1.heap.size:=⟨_,rfl⟩;obtain⟨W2,hW2⟩:∃W2,W2=w1.alloc (.cells #[.int .i64 64,.int .i64 1,.int .u8 3] 24):=⟨_,rfl⟩;have hb2:Below w1.heap.size w1 W2:=by rw[hW2];exact(Below.refl _ _).alloc (Nat.le_refl _) _
 have k2:W2.heap[n]?=some (.cells #[.int .i64 64,.int .i64 1,.int .u8 3] 24 (0,0)):=by rw[hW2,hn];exact heap_alloc_new _ _
 have hnp:n≠p∧n≠b:=by have:=ho1.dk.lt;have:=ho1.dk.own.lt;omega
 have K2:=hid k2;have HO2:=hid (ho1.pure hb2);clear ho1 hb2 k2
 go_wp2_with fail
 rw[← hW2];clear hW2;refine(D1 HL.out HK.out HO2.out).mono ?_;rintro e w3 ⟨rfl,ho3,hf3⟩;have HO3:=hid ho3;have k3:=hf3.heapAt K2.out (by omega);have K3:=hid k3;have c0:w3.cell? ⟨n,0,none⟩=some (.int .i64 64):=(cell_of_row _ _ _ _ _ _ k3).trans rfl;have c1:w3.cell? ⟨n,1,none⟩=some (.int .i64 1):=(cell_of_row _ _ _ _ _ _ k3).trans rfl;have c2:w3.cell? ⟨n,2,none⟩=some (.int .u8 3):=(cell_of_row _ _ _ _ _ _ k3).trans rfl;clear ho3 hf3 k3
 try rw[← hn]
 clear hn
 go_wp2_with fail
 refine(D2 HL.out HK.out HO3.out).mono ?_;rintro e w4 ⟨g,F,rfl,hf4,hr4⟩;have HF4:=hid hf4;have K4:=hid (hr4.heapAt K3.out (by omega));clear hf4 hr4 c0 c1 c2
 go_wp2_with fail
 refine(D4 HF4.out.env.lg).mono ?_;rintro e w5 ⟨b5,c5,rfl,_,_,_,_,hb5⟩;have HF5:=hid (HF4.out.pure hb5);have K5:=hid ((hb5.block _ (lt_of_block K4.out)).trans K4.out);clear hb5
 go_wp2_with fail
 refine(D4 HF5.out.env.lg).mono ?_;rintro e w6 ⟨b6,c6,rfl,_,_,_,_,hb6⟩;have HF6:=hid (HF5.out.pure hb6);have K6:=hid ((hb6.block _ (lt_of_block K5.out)).trans K5.out);clear hb6
 go_wp2_with fail
 refine(D4 HF6.out.env.lg).mono ?_;rintro e w7 ⟨b7,c7,rfl,x2,x3,_,_,hb7⟩;have HF7:=hid (HF6.out.pure hb7);have K7:=hid ((hb7.block _ (lt_of_block K6.out)).trans K6.out);clear hb7
 go_wp2_with fail
 refine(D4 HF7.out.env.lg).mono ?_;rintro e w8 ⟨b8,c8,rfl,_,_,x4,x5,hb8⟩;have HF8:=hid (HF7.out.pure hb8);have K8:=hid ((hb8.block _ (lt_of_block K7.out)).trans K7.out);clear hb8 x2 x3
 go_wp2_with fail
 refine(show Calls prog 16 #[.pointer (some ⟨p,0,none⟩),.string ⟨#[115,48,48,48,48,48,48,48,49,45,48,48,48,48,48,48,48,48,48,50]⟩] w8 λe w'=>e = .returned (.bool true)∧Below w8.heap.size w8 w' from D7 (s:=nmA) HF8.out.env.dk (by decide) Ef).mono ?_;rintro e w9 ⟨rfl,hb9⟩;have HF9:=hid (HF8.out.pure hb9);have K9:=hid ((hb9.block _ (lt_of_block K8.out)).trans K8.out);clear hb9 x4 x5
 go_wp2_with fail
 refine(show Calls prog 16 #[.pointer (some ⟨p,0,none⟩),.string ⟨#[115,48,48,48,48,48,48,48,48,45,48,48,48,48,48,48,48,48,48,50]⟩] w9 λe w'=>e = .returned (.bool false)∧Below w9.heap.size w9 w' from D8 (s:=nmB) HF9.out.env.dk (by decide) Eg).mono ?_;rintro e w10 ⟨rfl,hb10⟩;have HO10:=hid (HF9.out.pure hb10).mtd;have K10:=hid ((hb10.block _ (lt_of_block K9.out)).trans K9.out);clear hb10
 go_wp2_with fail
 refine(Dw w10).mono ?_;rintro e w11 ⟨rfl,hb11⟩;unfold AZ;obtain⟨bx,hbx⟩:∃bx,bx=w11.heap.size:=⟨_,rfl⟩;obtain⟨X12,hX12⟩:∃X12,X12=w11.alloc (.cells #[.int .i64 0,.int .i64 0,.int .i64 1,.int .i64 1,.slice none 0 0,.slice none 0 0,.slice none 0 0,.slice none 0 0,.slice none 0 0] 56):=⟨_,rfl⟩;have hb12:Below w11.heap.size w11 X12:=by rw[hX12];exact(Below.refl _ _).alloc (Nat.le_refl _) _
 have k12:X12.heap[bx]?=some (.cells #[.int .i64 0,.int .i64 0,.int .i64 1,.int .i64 1,.slice none 0 0,.slice none 0 0,.slice none 0 0,.slice none 0 0,.slice none 0 0] 56 (0,0)):=by rw[hX12,hbx];exact heap_alloc_new _ _
 have hb13:=hb11.trans (hb12.mono hb11.size);have HO12:=hid (HO10.out.pure hb13);have K12:=hid ((hb13.block _ (lt_of_block K10.out)).trans K10.out);have KX:=hid k12;have hbp:bx≠p∧bx≠b∧bx≠n∧w.heap.size≤bx:=by have:=HO10.out.dk.lt;have:=HO10.out.dk.own.lt;have:=hb11.size;have:=lt_of_block K10.out;have:=HO10.out.below.size;omega
 obtain⟨p0,pf0,p1,pf1,p2,pf2,p3,pf3,p4,pf4,p5,pf5,p6,pf6,p7,pf7,p8,pf8⟩:=Cu k12;clear hb11 hb12 hb13 k12
 go_wp2_with fail
 rw[← hX12]
 try rw[← hbx]
 clear hX12 hbx;refine wp_loop_rounds 3 ?_;rw[rounds_succ]
 go_wp2_with fail
 obtain⟨Y1,hY1⟩:∃Y1,Y1=X12.setCell ⟨bx,0,none⟩ (.int .i64 10):=⟨_,rfl⟩;have hfy1:Fr (λk=>k=bx) X12 Y1:=by rw[hY1];exact(Fr.refl (λk=>k=bx) X12).setCell ⟨bx,0,none⟩ (λ_=>rfl) _
 have ky1:Y1.heap[bx]?=some (.cells #[.int .i64 10,.int .i64 0,.int .i64 1,.int .i64 1,.slice none 0 0,.slice none 0 0,.slice none 0 0,.slice none 0 0,.slice none 0 0] 56 (0,0)):=by rw[hY1];exact heap_setCell_same _ _ _ _ _ _ KX.out
 have HY1:=hid (show xG w Y1 p b rJ.1 from⟨HO12.out.dk.kept hfy1 (λe=>hbp.1 e.symm) (λe=>hbp.2.1 e.symm),HO12.out.fp,HO12.out.fb,HO12.out.below.trans (hfy1.below HO12.out.below.size (λk hk e=>by have e2:k=bx:=e;omega))⟩);have KY1:=hid (And.intro ky1 (hfy1.heapAt K12.out (λe=>hbp.2.2.1 e.symm)));rw[← hY1];clear hY1 hfy1 ky1 p0 pf0 p1 pf1 p2 pf2 p3 pf3 p4 pf4 p5 pf5 p6 pf6 p7 pf7 p8 pf8;refine(Ec HY1.out HZ.out).mono ?_;rintro e w13 ⟨rfl,ho13,hf13⟩;have HO13:=hid ho13;have k13:=hf13.heapAt KY1.out.1 (by show ¬(bx=p∨bx=b);omega);have K13:=hid (And.intro k13 (hf13.heapAt KY1.out.2 (by show ¬(n=p∨n=b);omega)));obtain⟨p0,pf0,p1,pf1,p2,pf2,p3,pf3,p4,pf4,p5,pf5,p6,pf6,p7,pf7,p8,pf8⟩:=Cu k13;clear ho13 hf13 k13
 go_wp2_with fail
 rw[rounds_succ]
 go_wp2_with fail
 obtain⟨Y2,hY2⟩:∃Y2,Y2=w13.setCell ⟨bx,0,none⟩ (.int .i64 50):=⟨_,rfl⟩;have hfy2:Fr (λk=>k=bx) w13 Y2:=by rw[hY2];exact(Fr.refl (λk=>k=bx) w13).setCell ⟨bx,0,none⟩ (λ_=>rfl) _
 have HY2:=hid (show xG w Y2 p b rM.1 from⟨HO13.out.dk.kept hfy2 (λe=>hbp.1 e.symm) (λe=>hbp.2.1 e.symm),HO13.out.fp,HO13.out.fb,HO13.out.below.trans (hfy2.below HO13.out.below.size (λk hk e=>by have e2:k=bx:=e;omega))⟩);have KY2:=hid (hfy2.heapAt K13.out.2 (λe=>hbp.2.2.1 e.symm));rw[← hY2];clear hY2 hfy2 p0 pf0 p1 pf1 p2 pf2 p3 pf3 p4 pf4 p5 pf5 p6 pf6 p7 pf7 p8 pf8;refine(Ed HY2.out HZ.out).mono ?_;rintro e w14 ⟨rfl,ho14,hf14⟩;have HO14:=hid ho14;have k14:=hf14.heapAt KY2.out (by show ¬(n=p∨n=b);omega);have c0:w14.cell? ⟨n,0,none⟩=some (.int .i64 64):=(cell_of_row _ _ _ _ _ _ k14).trans rfl;have c1:w14.cell? ⟨n,1,none⟩=some (.int .i64 1):=(cell_of_row _ _ _ _ _ _ k14).trans rfl;have c2:w14.cell? ⟨n,2,none⟩=some (.int .u8 3):=(cell_of_row _ _ _ _ _ _ k14).trans rfl;clear ho14 hf14 k14
 go_wp2_with fail
 rw[rounds_succ]
 go_wp2_with fail
 refine(D3 HL.out HZ.out HO14.out).mono ?_;rintro e w15 ⟨g2,F2,rfl,hf15,_⟩;have HF15:=hid hf15;clear hf15 c0 c1 c2
 go_wp2_with fail
 refine(s9 w15 F2 g2 p mxJ HF15.out.env.lg (by decide)).mono ?_;rintro e w' ⟨rfl,rfl⟩;rw[show mxJ.first=4 from rfl]
 go_wp2_with fail
 refine(sZ w15 F2 g2 p mxJ HF15.out.env.lg (by decide) (by decide)).mono ?_;rintro e w16 ⟨rfl,hb16⟩;rw[show mxJ.next=8 from rfl];have HO16:=hid (HF15.out.pure hb16).mtd;clear hb16
 go_wp2_with fail
 refine(show Calls prog 16 #[.pointer (some ⟨p,0,none⟩),.string ⟨#[110,48,48,48,48,48,48,48,48,48,49]⟩] w16 λe w'=>e = .returned (.bool false)∧Below w16.heap.size w16 w' from D8 (s:=nmC) HO16.out.dk (by decide) Eh).mono ?_;rintro e w17 ⟨rfl,hb17⟩;have HO17:=hid (HO16.out.pure hb17);clear hb17
 go_wp2_with fail
 refine(show Calls prog 16 #[.pointer (some ⟨p,0,none⟩),.string ⟨#[110,48,48,48,48,48,48,48,48,48,53]⟩] w17 λe w'=>e = .returned (.bool true)∧Below w17.heap.size w17 w' from D7 (s:=nmD) HO17.out.dk (by decide) Ei).mono ?_;rintro e w18 ⟨rfl,hb18⟩;have HO18:=hid (HO17.out.pure hb18);clear hb18
 go_wp2_with fail
 refine(show Calls prog 16 #[.pointer (some ⟨p,0,none⟩),.string ⟨#[115,48,48,48,48,48,48,48,49,45,48,48,48,48,48,48,48,48,48,50]⟩] w18 λe w'=>e = .returned (.bool false)∧Below w18.heap.size w18 w' from D8 (s:=nmA) HO18.out.dk (by decide) Ej).mono ?_;rintro e w19 ⟨rfl,hb19⟩;have HO19:=hid (HO18.out.pure hb19);clear hb19;go_wp2;go_ret;exact⟨rfl,HO19.out.below⟩
theorem xy.disk {w0 w w':World}{F:Nat→Prop}{g p b:Nat}{st st':cZ}{l:kR}(h:xy w0 w F g p b st l)(hd:db w' p b st')(hf:dY p b w w'):xy w0 w' F g p b st' l:=by
 have h1:=h.fp;have h2:=h.fb;exact⟨h.env.disk hd hf,h.far,h1,h2,h.below.trans (hf.below h.below.size λk hk e=>by rcases e with rfl|rfl<;>omega)⟩
theorem El (w:World)(a b c:Int):Calls prog 21 #[.pointer none,.agg #[.int .i64 a,.int .i64 b,.int .u8 c]] w λe w'=>e = .returned (.tuple #[.pointer none,.int .i64 2])∧Below w.heap.size w w':=by
 go_enter func21,ntmps21
 go_wp2;refine bodyPost_ret (v:=.tuple #[.pointer none,.int .i64 2]) (by simp[results,results21,go_sem]) rfl ?_;exact⟨rfl,(Below.refl _ _).alloc (Nat.le_refl _) _⟩
theorem Em (w:World):∀W,Below w.heap.size w W→Calls prog 21 #[.pointer none,.agg #[.int .i64 64,.int .i64 1,.int .u8 3]] W λe w'=>e = .returned (.tuple #[.pointer none,.int .i64 2])∧Below w.heap.size w w':=
 λW hW=>(El W 64 1 3).mono λ_ _ h=>⟨h.1,hW.trans (h.2.mono hW.size)⟩
theorem En {w0 w:World}(hl:vN w0){p b:Nat}{st:cZ}{code:Int}(h:xG w0 w p b st)(hn:named st=true)(c:Cfg)(hc:kN c=true)(ho:mD st c=(st,code,none)) :
  ∀W,Below w.heap.size w W→Calls prog 21 #[.pointer (some ⟨p,0,none⟩),.agg #[.int .i64 c.ss,.int .i64 c.ev,.int .u8 c.v]] W λe w'=>e = .returned (.tuple #[.pointer none,.int .i64 code])∧xG w0 w' p b st:=by
 intro W hW;have hO:=h.pure hW;refine(xe W (hO.lib hl).1 p b st hO.dk (hO.lib hl).2 (qa hn) c (xH hc).1 (xH hc).2 hc).mono ?_;rw[ho];rintro e w' ⟨h1,h2,rfl⟩;exact⟨rfl,hO.op h1 h2⟩
theorem Eo {w0 w:World}{p b:Nat}{st:cZ}(h:xG w0 w p b st) :
  ∀W,Below w.heap.size w W→Calls prog 21 #[.pointer (some ⟨p,0,none⟩),.agg #[.int .i64 0,.int .i64 0,.int .u8 0]] W λe w'=>e = .returned (.tuple #[.pointer none,.int .i64 1])∧xG w0 w' p b st:=by
 intro W hW;have hO:=h.pure hW;refine(show Calls prog 21 #[.pointer (some ⟨p,0,none⟩),.agg #[.int .i64 0,.int .i64 0,.int .u8 0]] W λe w'=>tC p b (mD st ⟨0,0,0⟩) W e w' from xd W p b st hO.dk ⟨0,0,0⟩ (by decide) (by decide) (by decide)).mono ?_;rw[show mD st ⟨0,0,0⟩=(st,1,none)from by unfold mD;rw[if_pos (by decide)]];rintro e w' ⟨h1,h2,rfl⟩;exact⟨rfl,hO.op h1 h2⟩
theorem Ep:mD rj q9=(rj,5,none):=(pW _ _).trans rB
theorem Eq:named rj=true:=rfl
theorem Er:mD mxD1 q9=(mxD1,0,some (mU q9 0)):=mM (l:=mU q9 0) good_1.lit good_1.ok good_1.on
theorem Es:qp (mxD1.fs.map (·.name))=[]:=by rw[← qy];exact rC.2.2
theorem Et:qV ri (mU q9 0)=([],0):=by decide
theorem Eu:(qV ri rU).2=0∧(qV ri rU).1.length=2:=by decide +kernel
theorem Ev {w0 w:World}{p b:Nat}(hl:vN w0)(h:xG w0 w p b rj):Calls prog 5 #[.pointer (some ⟨p,0,none⟩),.agg #[.int .i64 64,.int .i64 1,.int .u8 3]] w λe w'=>e = .returned (.tuple #[.pointer none,.int .i64 5])∧xG w0 w' p b rj:=
 xN (P:=λw'=>xG w0 w' p b rj) (by decide) w _ (En hl h Eq q9 (by decide) Ep)
theorem Ew {w0 w:World}{p b:Nat}(hl:vN w0)(h:xG w0 w p b rj):Calls prog 6 #[.pointer (some ⟨p,0,none⟩),.agg #[.int .i64 64,.int .i64 1,.int .u8 3]] w λe w'=>e = .returned (.tuple #[.pointer none,.int .i64 5])∧xG w0 w' p b rj:=
 xM (P:=λw'=>xG w0 w' p b rj) (by decide) w _ (En hl h Eq q9 (by decide) Ep)
theorem Ex {w0 w:World}{p b:Nat}(h:xG w0 w p b rj):Calls prog 5 #[.pointer (some ⟨p,0,none⟩),.agg #[.int .i64 0,.int .i64 0,.int .u8 0]] w λe w'=>e = .returned (.tuple #[.pointer none,.int .i64 1])∧xG w0 w' p b rj:=
 xN (P:=λw'=>xG w0 w' p b rj) (by decide) w _ (Eo h)
theorem Ey {w0 w:World}{p b:Nat}(hl:vN w0)(hz:xB w0)(h:xG w0 w p b mxD1):Calls prog 5 #[.pointer (some ⟨p,0,none⟩),.agg #[.int .i64 64,.int .i64 1,.int .u8 3]] w λe w'=>e = .returned (.tuple #[.pointer none,.int .i64 5])∧xG w0 w' p b mxD1∧dY p b w w':=
 Dl (c:=q9) (l:=mU q9 0) hl hz h good_1.nmd (by decide) good_1.ok Er good_1.lit Es
theorem Ez {w0 w:World}{p b:Nat}(hl:vN w0)(hk:uL w0)(h:xG w0 w p b mxD1):Calls prog 6 #[.pointer (some ⟨p,0,none⟩),.agg #[.int .i64 64,.int .i64 1,.int .u8 3]] w λe w'=>∃g F,e = .returned (.tuple #[.pointer (some ⟨g,0,none⟩),.int .i64 0])∧xy w0 w' F g p b mxD1 (mU q9 0)∧dY p b w w':=
 xP (l:=mU q9 0) ri hl hk h good_1 Et
theorem EB {w0 w:World}{p b:Nat}(hl:vN w0)(hk:uL w0)(h:xG w0 w p b mxB.1.1):Calls prog 6 #[.pointer (some ⟨p,0,none⟩),.agg #[.int .i64 64,.int .i64 1,.int .u8 3]] w λe w'=>e = .returned (.tuple #[.pointer none,.int .i64 4])∧xG w0 w' p b mxB.1.1:=
 xO (l:=mxBL) ri hl hk h zx rF (by decide)
theorem ED {w0 w:World}{p b:Nat}(hl:vN w0)(hk:uL w0)(h:xG w0 w p b mxB.1.1):Calls prog 7 #[.pointer (some ⟨p,0,none⟩),.agg #[.int .i64 64,.int .i64 1,.int .u8 3]] w λe w'=>e = .returned (.tuple #[.int .i64 0,.int .i64 4])∧xG w0 w' p b mxB.1.1:=by
 have h1:=xK (l:=mxBL) ri hl hk h zx;rw[rF]at h1;exact h1.mono λ_ _ h=>⟨h.1,h.2.1⟩
theorem EE {w0 w:World}{p b:Nat}(hl:vN w0)(hk:uL w0)(h:xG w0 w p b mxX.1):Calls prog 6 #[.pointer (some ⟨p,0,none⟩),.agg #[.int .i64 64,.int .i64 1,.int .u8 3]] w λe w'=>e = .returned (.tuple #[.pointer none,.int .i64 40])∧xG w0 w' p b mxX.1∧dY p b w w':=
 Ae (l:=rU) (A:=(qV ri rU).1) ri hl hk h zu (Dx Eu.1) (λe=>by have:=Eu.2;rw[e]at this;cases this) (by decide)
theorem EF {w0 w:World}{p b:Nat}(hl:vN w0)(hk:uL w0)(h:xG w0 w p b mxX.1):Calls prog 7 #[.pointer (some ⟨p,0,none⟩),.agg #[.int .i64 64,.int .i64 1,.int .u8 3]] w λe w'=>e = .returned (.tuple #[.int .i64 2,.int .i64 0])∧xG w0 w' p b mxX.1:=by
 have h1:=xK (l:=rU) ri hl hk h zu;rw[Eu.1,Eu.2]at h1;exact h1.mono λ_ _ h=>⟨h.1,h.2.1⟩
theorem EG {W w':World}{n:Nat}(hk:W.heap[n]?=some (.cells #[.int .i64 64,.int .i64 1,.int .u8 3] 24 (0,0)))(hb:Below W.heap.size W w') :
  w'.cell? ⟨n,0,none⟩=some (.int .i64 64)∧w'.cell? ⟨n,1,none⟩=some (.int .i64 1)∧w'.cell? ⟨n,2,none⟩=some (.int .u8 3)∧w'.frozen? ⟨n,0,none⟩=false∧w'.frozen? ⟨n,1,none⟩=false∧w'.frozen? ⟨n,2,none⟩=false:=by
 have h:=(hb.block _ (lt_of_block hk)).trans hk;exact⟨(cell_of_row _ _ _ _ _ _ h).trans rfl,(cell_of_row _ _ _ _ _ _ h).trans rfl,(cell_of_row _ _ _ _ _ _ h).trans rfl,frozen_of_row _ _ _ _ _ h,frozen_of_row _ _ _ _ _ h,frozen_of_row _ _ _ _ _ h⟩
theorem EH:jt mxS.1 99999999 rk.segs=(mxX.1,0):=(Dx rV.1:mxX=(mxX.1,0))
theorem EI {w:World}{p b:Nat}(h:db w p b mxS.1):Calls prog 13 #[.pointer (some ⟨p,0,none⟩)] w λe w'=>∃g c,e = .returned (.tuple #[.agg #[.int .i64 0,.slice (some ⟨g,0,none⟩) 4 c],.int .i64 0])∧bJ w' (.slice (some ⟨g,0,none⟩) 4 c) rk.segs∧Below w.heap.size w w':=by
 refine(mC w p b mxS.1 h).mono ?_;unfold mu;rw[rW.1,rW.2.1,rW.2.2];rintro e w' ⟨hb,v,rfl,ho,_⟩
 rcases ho.2 with⟨hv,hn⟩|⟨g',cap,cur,rfl,_⟩
 ·cases hn
 ·exact⟨g',cap,rfl,ho.at,hb⟩
def nbV:ByteArray:=⟨#[110,111,32,98,97,116,99,104]⟩
theorem EJ (w:World)(hl:vN w)(hz:xB w)(hk:uL w):Calls prog 3 #[] w λe w'=>e = .returned (.bool true)∧Below w.heap.size w w':=by
 have HL:=hid hl;have HZ:=hid hz;have HK:=hid hk;clear hl hz hk
 go_enter func3,ntmps3
 go_wp2_with fail
 refine(Ek w HL.out HZ.out HK.out).mono ?_;rintro e w1 ⟨rfl,hb1⟩;obtain⟨n,hn⟩:∃n,n=w1.heap.size:=⟨_,rfl⟩;obtain⟨W2,hW2⟩:∃W2,W2=w1.alloc (.cells #[.int .i64 64,.int .i64 1,.int .u8 3] 24):=⟨_,rfl⟩;have hb2:Below w1.heap.size w1 W2:=by rw[hW2];exact(Below.refl _ _).alloc (Nat.le_refl _) _
 have KC:=hid (show W2.heap[n]?=some (.cells #[.int .i64 64,.int .i64 1,.int .u8 3] 24 (0,0))from by rw[hW2,hn];exact heap_alloc_new _ _);have HB2:=hid (hb1.trans (hb2.mono hb1.size));have HB1:=hid (And.intro hb1 hb2);have hnw:w1.heap.size≤n:=by rw[hn];exact Nat.le_refl _
 have HL2:=hid (HL.out.pure HB2.out);have HZ2:=hid (HZ.out.pure HB2.out);have HK2:=hid (HK.out.pure HB2.out);clear hb1 hb2
 go_wp2_with fail
 rw[← hW2]
 try rw[← hn]
 clear hW2 hn;refine(xN (P:=λw'=>Below W2.heap.size W2 w') (by decide) W2 _ (Em W2)).mono ?_;rintro e w3 ⟨rfl,hb3⟩;have HB3:=hid hb3;obtain⟨c0,c1,c2,_,_,_⟩:=EG KC.out hb3;clear hb3
 go_wp2_with fail
 refine(xM (P:=λw'=>Below w3.heap.size w3 w') (by decide) w3 _ (Em w3)).mono ?_;rintro e w4 ⟨rfl,hb4⟩;have HB4:=hid (HB3.out.trans (hb4.mono HB3.out.size));clear hb4 c0 c1 c2;obtain⟨c0,c1,c2,_,_,_⟩:=EG KC.out HB4.out
 go_wp2_with fail
 refine(xL (P:=λw'=>Below w4.heap.size w4 w') (by decide) w4 _ (Em w4)).mono ?_;rintro e w5 ⟨rfl,hb5⟩;have HB5:=hid (HB4.out.trans (hb5.mono HB4.out.size));clear hb5 c0 c1 c2
 go_wp2_with fail
 refine(jR w5 5000 (by decide)).mono ?_;rintro e w6 ⟨hb6,h1⟩;rw[show eX 5000 []=(some rj,0)from rfl]at h1;obtain⟨p,b,hpg,hbg,rfl,hd⟩:=h1;have HO6:=hid (show xG W2 w6 p b rj from⟨hd,by have:=HB5.out.size;omega,by have:=HB5.out.size;omega,HB5.out.trans (hb6.mono HB5.out.size)⟩);clear hpg hbg hd hb6;obtain⟨c0,c1,c2,_,_,_⟩:=EG KC.out HO6.out.below
 go_wp2_with fail
 refine(Ev HL2.out HO6.out).mono ?_;rintro e w7 ⟨rfl,ho7⟩;have HO7:=hid ho7;clear ho7 c0 c1 c2;obtain⟨c0,c1,c2,_,_,_⟩:=EG KC.out HO7.out.below
 go_wp2_with fail
 refine(Ew HL2.out HO7.out).mono ?_;rintro e w8 ⟨rfl,ho8⟩;have HO8:=hid ho8;clear ho8 c0 c1 c2
 go_wp2_with fail
 refine(Ex HO8.out).mono ?_;rintro e w9 ⟨rfl,ho9⟩;have HO9:=hid ho9;clear ho9;obtain⟨c0,c1,c2,_,_,_⟩:=EG KC.out HO9.out.below
 go_wp2_with fail
 refine(show Calls prog 9 #[.pointer (some ⟨p,0,none⟩),.int .i64 0,.agg #[.int .i64 64,.int .i64 1,.int .u8 3]] w9 λe w'=>tC p b (kY rj 0 q9) w9 e w' from wV w9 (HL2.out.pure HO9.out.below).pow p b rj HO9.out.dk 0 (by decide) q9 (by decide) (by decide) (by decide) rfl rfl).mono ?_;rw[zz];intro e w10 hi;obtain⟨g,F,rfl,hf⟩:=xy.init HL2.out.pow HO9.out.below HO9.out.dk HO9.out.fp HO9.out.fb (mW (by decide) (by decide)) hi;have HF10:=hid hf;clear hi hf c0 c1 c2;obtain⟨c0,c1,c2,_,_,_⟩:=EG KC.out HF10.out.below
 go_wp2_with fail
 refine(Ey HL2.out HZ2.out HF10.out.mtd).mono ?_;rintro e w11 ⟨rfl,ho11,hr11⟩;have HF11:=hid (HF10.out.disk ho11.dk hr11);clear ho11 hr11 c0 c1 c2;obtain⟨c0,c1,c2,_,_,_⟩:=EG KC.out HF11.out.below
 go_wp2_with fail
 refine(Ez HL2.out HK2.out HF11.out.mtd).mono ?_;rintro e w12 ⟨g2,F2,rfl,hf12,hr12⟩;have HF12:=hid (HF11.out.disk hf12.env.dk hr12);have HG12:=hid hf12;clear hf12 hr12 c0 c1 c2
 go_wp2_with fail
 refine(Ak w12 HF12.out.env HG12.out.env good_1.on good_1.lit rfl rfl).mono ?_;rintro e w13 ⟨rfl,hb13⟩;have HF13:=hid (HF12.out.pure hb13);clear hb13
 go_wp2_with fail
 refine(show Calls prog 11 #[.pointer (some ⟨g,0,none⟩),.string ⟨#[110,111,32,98,97,116,99,104]⟩] w13 λe w'=>xm w13 F g p b (mU q9 0).next mxB e w' from xx w13 F g p b mxD1 (mU q9 0) HF13.out.env nbV (by decide)).mono ?_;rintro e w14 ⟨rfl,hle⟩;rw[rE.1];obtain⟨F14,hf14⟩:=HF13.out.left hle;have HO14:=hid hf14.mtd;clear hle hf14;obtain⟨c0,c1,c2,_,_,_⟩:=EG KC.out HO14.out.below
 go_wp2_with fail
 refine(EB HL2.out HK2.out HO14.out).mono ?_;rintro e w15 ⟨rfl,ho15⟩;have HO15:=hid ho15;clear ho15 c0 c1 c2;obtain⟨c0,c1,c2,_,_,_⟩:=EG KC.out HO15.out.below
 go_wp2_with fail
 refine(ED HL2.out HK2.out HO15.out).mono ?_;rintro e w16 ⟨rfl,ho16⟩;have HO16:=hid ho16;clear ho16 c0 c1 c2
 go_wp2_with fail
 refine(zE w16 (HL2.out.pure HO16.out.below) (HK2.out.pure HO16.out.below)).mono ?_;rintro e w17 ⟨p2,b2,rfl,ho17⟩;have HO17:=hid (ho17.base HO16.out.below);clear ho17;obtain⟨c0,c1,c2,z0,z1,z2⟩:=EG KC.out HO17.out.below;have hnp:n≠p2∧n≠b2:=by have:=HO17.out.fp;have:=HO17.out.fb;have:=lt_of_block KC.out;omega
 have k17:=(HO17.out.below.block _ (lt_of_block KC.out)).trans KC.out;have KR:=hid k17;have HM1:=hid (HO17.out.base HB1.out.2);have HL1:=hid (HL.out.pure HB1.out.1);have HK1:=hid (HK.out.pure HB1.out.1);clear k17
 go_wp2_with fail
 obtain⟨W18,hW18⟩:∃W18,W18=((w17.setCell ⟨n,0,none⟩ (.int .i64 64)).setCell ⟨n,1,none⟩ (.int .i64 1)).setCell ⟨n,2,none⟩ (.int .u8 3):=⟨_,rfl⟩;have hf18:Fr (λk=>k=n) w17 W18:=by rw[hW18];exact((((Fr.refl (λk=>k=n) w17).setCell ⟨n,0,none⟩ (λ_=>rfl) _).setCell ⟨n,1,none⟩ (λ_=>rfl) _).setCell ⟨n,2,none⟩ (λ_=>rfl) _)
 have K18:=hid (show W18.heap[n]?=some (.cells #[.int .i64 64,.int .i64 1,.int .u8 3] 24 (0,0))from by rw[hW18];exact heap_setCell_same _ _ _ _ _ _ (heap_setCell_same _ _ _ _ _ _ (heap_setCell_same _ _ _ _ _ _ KR.out)));have HO18:=hid (show xG w1 W18 p2 b2 mxS.1 from⟨HM1.out.dk.kept hf18 (λe=>hnp.1 e.symm) (λe=>hnp.2 e.symm),HM1.out.fp,HM1.out.fb,HM1.out.below.trans (hf18.below HM1.out.below.size (λk hk e=>by have e2:k=n:=e;omega))⟩);rw[← hW18];clear hW18 hf18 c0 c1 c2 z0 z1 z2;refine(EI HO18.out.dk).mono ?_;rintro e w19 ⟨sg,sc,rfl,hsg,hb19⟩;obtain⟨W20,hW20⟩:∃W20,W20=w19.alloc (.cells #[.int .i64 99999999,.slice (some ⟨sg,0,none⟩) 4 sc] 42):=⟨_,rfl⟩;have hb20:Below w19.heap.size w19 W20:=by rw[hW20];exact(Below.refl _ _).alloc (Nat.le_refl _) _
 have hb18:=hb19.trans (hb20.mono hb19.size);have HO20:=hid (HO18.out.pure hb18);have K20:=hid ((hb18.block _ (lt_of_block K18.out)).trans K18.out);have HSG:=hid (hsg.pure hb20);clear hsg hb19 hb20 hb18
 go_wp2_with fail
 rw[← hW20];clear hW20;refine(jC W20 p2 b2 mxS.1 HO20.out.dk 99999999 _ rk.segs HSG.out (by decide) rV.2.1).mono ?_;rw[EH];rintro e w21 ⟨rfl,hd21,hf21⟩;have HO21:=hid (HO20.out.op hd21 hf21);have k21:=hf21.heapAt K20.out (by show ¬(n=p2∨n=b2);omega);have K21:=hid k21;obtain⟨c0,c1,c2,_,_,_⟩:=EG k21 (Below.refl _ _);clear hd21 hf21 k21
 go_wp2_with fail
 refine(EE HL1.out HK1.out HO21.out).mono ?_;rintro e w22 ⟨rfl,ho22,hf22⟩;have HO22:=hid ho22;have k22:=hf22.heapAt K21.out (by show ¬(n=p2∨n=b2);omega);clear c0 c1 c2;obtain⟨c0,c1,c2,_,_,_⟩:=EG k22 (Below.refl _ _);clear ho22 hf22 k22
 go_wp2_with fail
 refine(EF HL1.out HK1.out HO22.out).mono ?_;rintro e w23 ⟨rfl,ho23⟩;have HBE:=hid (HB1.out.1.trans (ho23.below.mono HB1.out.1.size));clear ho23 c0 c1 c2;go_wp2;go_ret;exact⟨rfl,HBE.out⟩
end
end Go.Proofs.YthjjgcfdhkhelaaGreatDoor
