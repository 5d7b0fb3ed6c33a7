/- The laws of maint: what they ask first (awake). -/
import Derived.Test.YthjjgcfdhkhelaaGreatDoorQBm
import Derived.Test.YthjjgcfdhkhelaaGreatDoorQBl
set_option maxHeartbeats 4000000
set_option maxRecDepth 100000
open Go.Lib(hid)
open Go.Proofs.Tryz
namespace Go.Proofs.YthjjgcfdhkhelaaGreatDoor
section
open Go.RowKit
theorem Tryz.infoFl:(prog.info? 139).map (λi=>(i.zero,i.size,i.bytes))=some (some (.agg #[.string ⟨#[]⟩,.string ⟨#[]⟩]),2,32):=by kernel_rfl
theorem zY (w:World)(hpw:Pow w)(l:kR)(sv:Value)(hs:bJ w sv l.segs)(h0:0<l.segs.length)(hl:l.segs.length≤1000000)(hg0:0≤l.gen)(hg:l.gen<99999999)(base:Nat)(av:Value)(A:List qT)(ha:vj w base av A)(hok:∀x∈A,AnewOk l x)(hal:A.length≤1000000) :
  Calls prog 28 #[.agg #[.int .i64 l.gen,sv],av] w λe w'=>(∃fv nv,e = .returned (.tuple #[fv,.agg #[.int .i64 (l.gen+1),nv],.int .i64 0])∧OwnFl w' w.heap.size fv (qX l A)∧bJ w' nv (qW l A)∧∀g,nv.ownBlock=some g→w.heap.size≤g)∧Below w.heap.size w w':=by
 obtain⟨sa,sc,rfl⟩:=hs.shape;obtain⟨sb,so,rfl,_,_,hsbl⟩:=hs.at 0 h0;have HPW:=hid hpw;clear hpw;have HS:=hid hs;have HA:=hid ha;have HOK:=hid hok;obtain⟨B,hB⟩:∃B,B=w.heap.size:=⟨_,rfl⟩;have HBB:=hid hB;clear hs ha hok
 go_enter func28,ntmps28
 go_wp2_with fail
 obtain⟨W1,hW1⟩:∃W1,W1=(w.alloc (.cells #[.int .i64 l.gen,.slice (some ⟨sb,so,none⟩) l.segs.length sc] 42)).alloc (.cells #[.int .i64 0,.slice none 0 0] 42):=⟨_,rfl⟩;have hb1:Below B w W1:=by rw[hW1,hB];exact((Below.refl _ _).alloc (Nat.le_refl _) _).alloc (by simp) _
 have k0:W1.heap[B]?=some (.cells #[.int .i64 l.gen,.slice (some ⟨sb,so,none⟩) l.segs.length sc] 42 (0,0)):=by rw[hW1,hB];exact(Below.heap_alloc _ _ _ (by simp)).trans (heap_alloc_new _ _)
 have k1:W1.heap[B+1]?=some (.cells #[.int .i64 0,.slice none 0 0] 42 (0,0)):=by rw[hW1,hB];exact yS _ _ (by simp)
 have hz1:W1.heap.size=B+2:=by rw[hW1,hB];simp
 rw[← hW1,← hB];have HS1:=hid (HS.out.pure (show Below w.heap.size w W1 from by rw[← hB];exact hb1));have HA1:=hid (HA.out.pure (show Below w.heap.size w W1 from by rw[← hB];exact hb1));have HB1:=hid hb1;have K0:=hid k0;have K1:=hid k1;have HZ:=hid hz1;clear hW1 hb1 HS HA hsbl hB k0 k1 hz1;obtain⟨i0,hi,hz0,hz1,hz2⟩:=info_parts Tryz.infoEntry;have HI:=hid hi;have HZ0:=hid hz0;have HZ1:=hid hz1;have HZ2:=hid hz2;clear hi hz0 hz1 hz2;have x0:W1.drew.cell? ⟨B,0,none⟩=some (.int .i64 l.gen):=(cell_of_row _ _ _ _ _ _ K0.out).trans rfl;have x1:W1.drew.cell? ⟨B,1,none⟩=some (.slice (some ⟨sb,so,none⟩) l.segs.length sc):=(cell_of_row _ _ _ _ _ _ K0.out).trans rfl;have z0:W1.cell? ⟨B,0,none⟩=some (.int .i64 l.gen):=x0;have z1:W1.cell? ⟨B,1,none⟩=some (.slice (some ⟨sb,so,none⟩) l.segs.length sc):=x1;have y0:∀o,(W1.alloc o).cell? ⟨B,0,none⟩=some (.int .i64 l.gen):=λo=>(World.cell?_alloc_past _ _ _ (aw z0)).trans z0;have y1:∀o,(W1.alloc o).cell? ⟨B,1,none⟩=some (.slice (some ⟨sb,so,none⟩) l.segs.length sc):=λo=>(World.cell?_alloc_past _ _ _ (aw z1)).trans z1;have v0:∀o o',((W1.alloc o).alloc o').cell? ⟨B,0,none⟩=some (.int .i64 l.gen):=λo o'=>(World.cell?_alloc_past _ _ _ (aw (y0 o))).trans (y0 o);have v1:∀o o',((W1.alloc o).alloc o').cell? ⟨B,1,none⟩=some (.slice (some ⟨sb,so,none⟩) l.segs.length sc):=λo o'=>(World.cell?_alloc_past _ _ _ (aw (y1 o))).trans (y1 o);have hwr:IntKind.i64.wrap (l.gen+1)=l.gen+1:=IntWalk.i64_in _ (by omega);obtain⟨W2,hW2⟩:∃W2,W2=(W1.alloc (.cells #[] 48)).alloc (.cells #[.int .i64 0,.slice none 0 0] 42):=⟨_,rfl⟩;have k2:W2.heap[W1.heap.size]?=some (.cells #[] 48 (0,0)):=by rw[hW2];exact(Below.heap_alloc _ _ _ (by simp)).trans (heap_alloc_new _ _)
 have k3:W2.heap[W1.heap.size+1]?=some (.cells #[.int .i64 0,.slice none 0 0] 42 (0,0)):=by rw[hW2];exact yS _ _ (by simp)
 have hb2:Below W1.heap.size W1 W2.drew:=by rw[hW2];exact(((Below.refl _ _).alloc (Nat.le_refl _) _).alloc (by simp) _).drew
 have hrow:W2.drew.ownsRow (B+2) 48 2 (.slice (some ⟨W1.heap.size,0,none⟩) 0 0) 0 []:=⟨rfl,.inr ⟨W1.heap.size,0,#[],rfl,by rw[HZ.out];exact Nat.le_refl _,k2,by omega,by simp,rfl,rfl⟩⟩;have HR:=hid hrow;have K3:=hid k3;have HB2:=hid hb2;have hz2:W2.drew.heap.size=W1.heap.size+2:=by rw[hW2];simp
 have HN:=hid (show ∀j u,(gJ l.segs)[j]?=some u→W2.drew.cell? ((⟨sb,so,none⟩:Addr).add j)=some u from λj u hj=>by
  have h:=jX HS1.out hj;rw[show(⟨sb,so,none⟩:Addr).add j=⟨sb,so+j,none⟩from by unfold Addr.add;split<;>simp_all];exact vd h hb2)
 have HEQ:=hid hW2;obtain⟨W4,hW4⟩:∃W4,W4=(W1.alloc (.cells #[] 48)).drew:=⟨_,rfl⟩;have hb4:Below W1.heap.size W1 W4:=by rw[hW4];exact((Below.refl _ _).alloc (Nat.le_refl _) _).drew
 have hz4:W4.heap.size=W1.heap.size+1:=by rw[hW4];simp
 have k4:W4.heap[W1.heap.size]?=some (.cells #[] 48 (0,0)):=by rw[hW4];exact heap_alloc_new _ _
 have HR4:=hid (show W4.ownsRow (B+2) 48 2 (.slice (some ⟨W1.heap.size,0,none⟩) 0 0) 0 []from⟨rfl,.inr ⟨W1.heap.size,0,#[],rfl,by rw[HZ.out];exact Nat.le_refl _,k4,by omega,by simp,rfl,rfl⟩⟩);have HN4:=hid (show ∀j u,(gJ l.segs)[j]?=some u→W4.cell? ((⟨sb,so,none⟩:Addr).add j)=some u from λj u hj=>by
  have h:=jX HS1.out hj;rw[show(⟨sb,so,none⟩:Addr).add j=⟨sb,so+j,none⟩from by unfold Addr.add;split<;>simp_all];exact vd h hb4)
 have HEQ4:=hid hW4;have HB4:=hid hb4;have HS4:=hid hz4;clear hW4 hb4 hz4 k4;obtain⟨W6,hW6⟩:∃W6,W6=((W1.alloc (.cells #[.int .i64 0,.slice none 0 0] 42)).alloc (.cells #[] 48)).drew:=⟨_,rfl⟩;have hb6:Below W1.heap.size W1 W6:=by rw[hW6];exact(((Below.refl _ _).alloc (Nat.le_refl _) _).alloc (by simp) _).drew
 have hz6:W6.heap.size=W1.heap.size+2:=by rw[hW6];simp
 have k6:W6.heap[W1.heap.size+1]?=some (.cells #[] 48 (0,0)):=by rw[hW6];exact yS _ _ (by simp)
 have K6:=hid (show W6.heap[W1.heap.size]?=some (.cells #[.int .i64 0,.slice none 0 0] 42 (0,0))from by rw[hW6];exact(Below.heap_alloc _ _ _ (by simp)).trans (heap_alloc_new _ _));have HR6:=hid (show W6.ownsRow (B+2) 48 2 (.slice (some ⟨W1.heap.size+1,0,none⟩) 0 0) 0 []from⟨rfl,.inr ⟨W1.heap.size+1,0,#[],rfl,by rw[HZ.out];omega,k6,by omega,by simp,rfl,rfl⟩⟩);have HN6:=hid (show ∀j u,(gJ l.segs)[j]?=some u→W6.cell? ((⟨sb,so,none⟩:Addr).add j)=some u from λj u hj=>by
  have h:=jX HS1.out hj;rw[show(⟨sb,so,none⟩:Addr).add j=⟨sb,so+j,none⟩from by unfold Addr.add;split<;>simp_all];exact vd h hb6)
 have HEQ6:=hid hW6;have HB6:=hid hb6;have HS6:=hid hz6;clear hW6 hb6 hz6 k6;have HS2:=hid hz2;clear hrow k2 k3 hb2 hW2 hz2;have HL:=hid (gK l.segs)
 go_upto_region 3 with fail
 go_cut [7] (λt wx=>zL W1 wx B l t)
 case first=>
  go_region_law (first|(rw[← HEQ4.out];refine step_append_lies _ (by rfl) _ _ _ (by rfl) (B+2) 48 i0 _ 2 16 underlying40 HI.out HZ0.out HZ1.out HZ2.out rfl (by omega) _ 0 [] (by rfl) HR4.out ⟨sb,so,none⟩ l.segs.length sc (gJ l.segs) (by rfl) HL.out HN4.out (λu hu=>jW hu) h0 (by unfold maxLen;omega) (by omega) (by rw[HS4.out,HZ.out];omega) (W1.heap.size+1) HS4.out ?_;intro gg cap w8 hown8 hgrow8 hat8 hlt8;have p0:w8.cell? ⟨B,0,none⟩=some (.int .i64 l.gen):=(sU hgrow8).cellAt (vd z0 HB4.out) (λe=>by have:=HZ.out;simp[Value.ownBlock]at e;omega);have p1:∀o,(w8.alloc o).cell? ⟨B,0,none⟩=some (.int .i64 l.gen):=λo=>(World.cell?_alloc_past _ _ _ (aw p0)).trans p0)|(rw[← HEQ.out];refine step_append_lies _ (by rfl) _ _ _ (by rfl) (B+2) 48 i0 _ 2 16 underlying40 HI.out HZ0.out HZ1.out HZ2.out rfl (by omega) _ 0 [] (by rfl) HR.out ⟨sb,so,none⟩ l.segs.length sc (gJ l.segs) (by rfl) HL.out HN.out (λu hu=>jW hu) h0 (by unfold maxLen;omega) (by omega) (by rw[HS2.out,HZ.out];omega) (W1.heap.size+2) HS2.out ?_;intro gg cap w8 hown8 hgrow8 hat8 hlt8;have q3:w8.heap[W1.heap.size+1]?=some (.cells #[.int .i64 0,.slice none 0 0] 42 (0,0)):=((sU hgrow8).heapAt K3.out (by simp[Value.ownBlock]));have q0:w8.cell? ⟨W1.heap.size+1,0,none⟩=some (.int .i64 0):=(cell_of_row _ _ _ _ _ _ q3).trans rfl;have q1:w8.cell? ⟨W1.heap.size+1,1,none⟩=some (.slice none 0 0):=(cell_of_row _ _ _ _ _ _ q3).trans rfl;have qf0:w8.frozen? ⟨W1.heap.size+1,0,none⟩=false:=frozen_of_row _ _ _ _ _ q3;have qf1:w8.frozen? ⟨W1.heap.size+1,1,none⟩=false:=frozen_of_row _ _ _ _ _ q3;have p0:w8.cell? ⟨B,0,none⟩=some (.int .i64 l.gen):=(sU hgrow8).cellAt (vd z0 HB2.out) (λe=>by have:=HZ.out;simp[Value.ownBlock]at e;omega))|(rw[← HEQ6.out];refine step_append_lies _ (by rfl) _ _ _ (by rfl) (B+2) 48 i0 _ 2 16 underlying40 HI.out HZ0.out HZ1.out HZ2.out rfl (by omega) _ 0 [] (by rfl) HR6.out ⟨sb,so,none⟩ l.segs.length sc (gJ l.segs) (by rfl) HL.out HN6.out (λu hu=>jW hu) h0 (by unfold maxLen;omega) (by omega) (by rw[HS6.out,HZ.out];omega) (W1.heap.size+2) HS6.out ?_;intro gg cap w8 hown8 hgrow8 hat8 hlt8;have q3:w8.heap[W1.heap.size]?=some (.cells #[.int .i64 0,.slice none 0 0] 42 (0,0)):=((sU hgrow8).heapAt K6.out (by simp[Value.ownBlock]));have q0:w8.cell? ⟨W1.heap.size,0,none⟩=some (.int .i64 0):=(cell_of_row _ _ _ _ _ _ q3).trans rfl;have q1:w8.cell? ⟨W1.heap.size,1,none⟩=some (.slice none 0 0):=(cell_of_row _ _ _ _ _ _ q3).trans rfl;have qf0:w8.frozen? ⟨W1.heap.size,0,none⟩=false:=frozen_of_row _ _ _ _ _ q3;have qf1:w8.frozen? ⟨W1.heap.size,1,none⟩=false:=frozen_of_row _ _ _ _ _ q3;have p0:w8.cell? ⟨B,0,none⟩=some (.int .i64 l.gen):=(sU hgrow8).cellAt (vd z0 HB6.out) (λe=>by have:=HZ.out;simp[Value.ownBlock]at e;omega)))
  all_goals
   go_wp2_with fail
   go_meet
   case rel=>
    first
     | exact zP hown8 ((show Below (B+2) W1 W4 from by rw[← HZ.out];exact HB4.out).grown hgrow8 (by have:=HS4.out;have:=HZ.out;omega) (λj e=>by simp[Value.ownBlock]at e;have:=HZ.out;omega)) HZ.out
     | exact zQ hown8 ((show Below (B+2) W1 W2.drew from by rw[← HZ.out];exact HB2.out).grown hgrow8 (by have:=HS2.out;have:=HZ.out;omega) (λj e=>by simp[Value.ownBlock]at e;have:=HZ.out;omega)) q3 (by have:=HZ.out;omega) (by have:=HZ.out;rcases hat8 with e|e;(simp[Value.ownBlock]at e;omega);omega) HZ.out
     | exact zQ hown8 ((show Below (B+2) W1 W6 from by rw[← HZ.out];exact HB6.out).grown hgrow8 (by have:=HS6.out;have:=HZ.out;omega) (λj e=>by simp[Value.ownBlock]at e;have:=HZ.out;omega)) q3 (by have:=HZ.out;omega) (by have:=HZ.out;rcases hat8 with e|e;(simp[Value.ownBlock]at e;omega);omega) HZ.out
 case rest=>
  obtain⟨nb,gg,cap,rfl,kn,hnb,hgb,hne,hsg,hfz,hbw⟩:=hcut;obtain⟨a,c,rfl⟩:=HA1.out.shape;have hbc:Below B w wc:=HB1.out.trans (hbw.mono (by omega));obtain⟨C,hC⟩:∃C,C=wc.heap.size:=⟨_,rfl⟩;have HCC:=hid hC;have HBC:=hid hbc;have HKN:=hid kn;have HSG:=hid hsg;have HFZ:=hid hfz;have HBW:=hid hbw;have HGC:=hid (show gg<wc.heap.size from by obtain⟨_,_,e,_,_,h⟩:=hsg.at 0 h0;cases e;exact h);have HK0:=hid ((hbw.block _ (by omega)).trans K0.out);have HK1:=hid ((hbw.block _ (by omega)).trans K1.out);have HGG:=hid (And.intro hnb (And.intro hgb hne));clear hC hbc kn hsg hfz hbw x0 x1 z0 z1 y0 y1 v0 v1 HEQ HEQ4 HEQ6 HR HR4 HR6 HN HN4 HN6 HB2 HB4 HB6 HS2 HS4 HS6 K3 K6 hnb hgb hne HI HZ0 HZ1 HZ2;clear i0;obtain⟨i0,hi,hz0,hz1,hz2⟩:=info_parts Tryz.infoFl;have HI:=hid hi;have HZ0:=hid hz0;have HZ1:=hid hz1;have HZ2:=hid hz2;clear hi hz0 hz1 hz2
  go_wp2_with fail
  go_loopw [8,28] (λfl i wr=>∃k:Nat,i = .int .i64 k∧k≤A.length∧Hid (Fr (λj=>j=gg) wc wr)∧Hid (wr.ownsRow C 139 2 fl k (vB ((qX l A).take k)))∧Hid (bJ wr (.slice (some ⟨gg,0,none⟩) l.segs.length cap) (qW l (A.take k)))∧Hid (∀j:Nat,wr.frozen? ⟨gg,j,none⟩=false)) (λ_ i _=>A.length-(intOf i).toNat)
  case atStart=>exact⟨0,rfl,by omega,hid (Fr.refl _ _),hid (World.ownsRow_nil _ _ _ _),HSG,HFZ⟩
  case round=>
   obtain⟨k,rfl,hk,HFR,HFL,HSK,HFK⟩:=hrel;by_cases hlt:k<A.length
   ·obtain⟨g,ta,tc,rfl,hg0,ac0,ac1,htx,_⟩:=HA1.out.at k hlt
    have hx:=HOK.out _ (List.getElem_mem hlt);obtain⟨q,hq,hq1,hq2,hq3,hq4⟩:=hx.q;have hat:A[k].1<l.segs.length:=hx.lt;have hqq:(l.segs[A[k].1]'hat).2=(q:Int):=hq;have hpy:=hx.pays;obtain⟨_,_,hsb2,_,sg1,_⟩:=HS1.out.at _ hat;cases hsb2;rw[hqq]at sg1;clear hq hx;have hwz:=HZ.out;have hggz:=HGG.out;have hup:∀{b0 o0:Nat} {u:Value},W1.cell? ⟨b0,o0,none⟩=some u→wr.cell? ⟨b0,o0,none⟩=some u:=λ{b0 o0 u} h=>HFR.out.cellAt (vd h (by rw[hwz];exact HBW.out)) (by have h4:b0<W1.heap.size:=aw h;show ¬b0=gg;omega);have a0:=hup ac0;have a1:=hup ac1;have hal2:∀{b0 o0:Nat} {u:Value},wr.cell? ⟨b0,o0,none⟩=some u→∀o,(wr.alloc o).cell? ⟨b0,o0,none⟩=some u:=λ{b0 o0 u} h o=>(World.cell?_alloc_past _ _ _ (aw h)).trans h;have m1:=hal2 (hup (show W1.cell? ⟨B,1,none⟩=some (.slice (some ⟨sb,so,none⟩) l.segs.length sc)from(cell_of_row _ _ _ _ _ _ K0.out).trans rfl));have s1:=hal2 (hup sg1);obtain⟨W2,hW2⟩:∃W2,W2=wr.alloc (.cells #[.int .i64 (A[k].1:Int),.slice ta A[k].2.length tc] 81):=⟨_,rfl⟩;have hb2:Below wr.heap.size wr W2:=by rw[hW2];exact(Below.refl _ _).alloc (Nat.le_refl _) _
    have k2:W2.heap[wr.heap.size]?=some (.cells #[.int .i64 (A[k].1:Int),.slice ta A[k].2.length tc] 81 (0,0)):=by rw[hW2];exact heap_alloc_new _ _
    have HTX:=hid ((htx.past (by rw[hwz];exact HBW.out) HFR.out (by rw[hwz];exact hggz.2.1)).pure hb2);have HB2:=hid hb2;have K2:=hid k2;have HQ:=hid (And.intro hqq (And.intro hq1 (And.intro hq2 (And.intro hq3 (And.intro hq4 hpy)))));clear ac0 ac1 htx hg0 sg1 hup hal2 hb2 k2 hqq hq1 hq2 hq3 hq4 hpy hwz hggz
    go_wp2_with fail
    rw[← hW2];clear hW2 a0 a1 m1 s1;refine(zK W2 q _ A[k].2 HTX.out HQ.out.2.2.2.2.1 HQ.out.2.2.2.2.2 HQ.out.2.2.1 HQ.out.2.1 HQ.out.2.2.2.1).mono ?_;rintro e w3 ⟨⟨s,hs,rfl⟩,hb3⟩;have hb23:=HB2.out.trans (hb3.mono HB2.out.size);have HSS:=hid hs;have HB23:=hid hb23;have HGGw:=HGG.out;have kn3:=(hb23.block _ (by have:=lt_of_block (HFR.out.heapAt HKN.out (by show ¬nb=gg;omega));exact this)).trans (HFR.out.heapAt HKN.out (by show ¬nb=gg;omega));have KN3:=hid kn3;have k3:=(hb3.block _ (lt_of_block K2.out)).trans K2.out;have n0:w3.cell? ⟨nb,0,none⟩=some (.int .i64 (l.gen+1)):=(cell_of_row _ _ _ _ _ _ kn3).trans rfl;have n1:w3.cell? ⟨nb,1,none⟩=some (.slice (some ⟨gg,0,none⟩) l.segs.length cap):=(cell_of_row _ _ _ _ _ _ kn3).trans rfl;have t0:w3.cell? ⟨wr.heap.size,0,none⟩=some (.int .i64 (A[k].1:Int)):=(cell_of_row _ _ _ _ _ _ k3).trans rfl;have hsl:A[k].1<(qW l (A.take k)).length:=by rw[zW];exact hat
    obtain⟨_,_,e1,sk0,_,hgl⟩:=HSK.out.at _ hsl;cases e1;rw[Nat.zero_add]at sk0;have g0:=vd sk0 hb23;have gz:w3.frozen? ⟨gg,A[k].1*2,none⟩=false:=(hb23.frozen hgl).trans (HFK.out _);have n0':∀v,(w3.setCell ⟨gg,A[k].1*2,none⟩ v).cell? ⟨nb,0,none⟩=some (.int .i64 (l.gen+1)):=λv=>(dK _ _).cellAt n0 (by show ¬nb=gg;omega);have HGL:=hid hgl;clear hs hb3 hb23 kn3 k3 sk0 hgl
    go_wp2_with fail
    obtain⟨W4,hW4⟩:∃W4,W4=w3.setCell ⟨gg,A[k].1*2,none⟩ (.int .i64 (l.gen+1)):=⟨_,rfl⟩;rw[← hW4];have hf4:Fr (λj=>j=gg) w3 W4:=by rw[hW4];exact(Fr.refl (λj=>j=gg) w3).setCell ⟨gg,A[k].1*2,none⟩ (λ_=>rfl) _
    have hbb:Below B w W4:=HBC.out.trans (((HFR.out.trans (Fr.pure HB23.out)).trans hf4).below (by have:=HBC.out.size;have:=HBB.out;omega) (λi hi e=>by have e':i=gg:=e;omega));have HBA:=hid hbb;have HFR4:=hid ((HFR.out.trans (Fr.pure HB23.out)).trans hf4);have HS4:=hid (show bJ W4 (.slice (some ⟨gg,0,none⟩) l.segs.length cap) (qW l (A.take (k+1)))from by
     rw[hW4,zS l A k hlt];have h:=(HSK.out.pure HB23.out).put (i:=A[k].1) (x:=l.gen+1) (y:=((l.segs[A[k].1]?).getD (0,0)).2) hsl (by rw[zX l _ _ hsl hat,List.getElem?_eq_getElem hat];rfl);exact h)
    have HF4:=hid (show ∀j:Nat,W4.frozen? ⟨gg,j,none⟩=false from λj=>by have hz:=(HB23.out.frozen (p:=⟨gg,j,none⟩) HGL.out).trans (HFK.out j);rw[hW4];simp[go_sem,hz]);have HO4:=hid (hf4.ownsRow ((Fr.pure (S:=λ_=>False) HB23.out).ownsRow HFL.out (λ_ _ e=>e)) (λy hy e=>by have h1:=gt HFL.out hy;have e':y=gg:=e;have:=HCC.out;have:=HGC.out;omega));clear hW4 hf4 hbb n0 n1 t0 g0 gz n0' HGGw;refine(cf W4 (bS (by rw[← HBB.out];exact HBA.out) HPW.out) (l.gen+1) (q:Int)).mono ?_;rintro e w5 ⟨⟨r,hr,rfl⟩,hb5⟩;have HRR:=hid hr;have HFR5:=hid (HFR4.out.trans (Fr.pure hb5));have HS5:=hid (HS4.out.pure hb5);have HF5:=hid (show ∀j:Nat,w5.frozen? ⟨gg,j,none⟩=false from λj=>(hb5.frozen (show gg<W4.heap.size from by have:=HGC.out;have:=HFR4.out.size;omega)).trans (HF4.out j));have HOW:=hid (((Fr.pure (S:=λ_=>False) hb5).ownsRow HO4.out (λ_ _ e=>e)).alloc (.cells #[.string r,.string s] 139));have HC5:=hid (show C≤w5.heap.size from by have:=HFR5.out.size;have:=HCC.out;omega);have hc5:=HC5.out;clear hr hb5
    go_wp2_with (first
     | (refine wpList_append_lies _ rfl _ _ 76 rfl C 139 i0 _ 2 32 underlying76 HI.out HZ0.out HZ1.out HZ2.out rfl (by omega) _ k _ rfl HOW.out ⟨w5.heap.size,0,none⟩ 1 1 [.string r,.string s] rfl rfl (aC rfl rfl) (by simp[Value.oneCell']) (by omega) (by unfold maxLen;omega) (by omega) (by simp;omega) (w5.heap.size+1) (by simp) ?_;intro g8 cap8 w8 hown8 hgrow8 hat8 hlt8))
    go_roundw
    case rel=>
     have hge:∀y,(Value.ownBlock u8)=some y→C≤y:=λy e=>gt HFL.out e;have hf8:Fr (λy=>Value.ownBlock u8=some y) w5 w8:=((Fr.refl _ w5).alloc _).grown hgrow8 (λy _ e=>e);have hgc:=HGC.out;have hcc:=HCC.out;refine⟨k+1,by go_num,by omega,hid (HFR5.out.then hf8 (λi hi e=>by have:=hge _ e;omega)),hid ?_,hid (HS5.out.kept hf8 (λy hy e=>by have e2:gg=y:=Option.some.inj hy;have:=hge _ e;omega)),hid (λj=>(hf8.frozen (show gg<w5.heap.size from by have:=HFR5.out.size;omega) (λe=>by have:=hge _ e;omega)).trans (HF5.out j))⟩;rw[zT l A k hlt,List.getElem?_eq_getElem hat,zR,← jP (show r.data.toList=b9 (l.gen+1) (((some (l.segs[A[k].1]'hat)).getD (0,0)).2)from by rw[HRR.out];show _=b9 (l.gen+1) (l.segs[A[k].1]'hat).2;rw[HQ.out.1]),
      ← jP (show s.data.toList=iR ((some (l.segs[A[k].1]'hat)).getD (0,0)).2.toNat A[k].2 from by rw[HSS.out];show _=iR (l.segs[A[k].1]'hat).2.toNat A[k].2;rw[HQ.out.1];rfl)]
     exact hown8
    case measure=>simp[intOf];omega
   ·have hkk:k=A.length:=by omega
    subst hkk;have hb2:=HGG.out;have kn:=HFR.out.heapAt HKN.out (by show ¬nb=gg;omega);have kr:=HFR.out.heapAt HK1.out (by show ¬B+1=gg;omega);have n0:wr.cell? ⟨nb,0,none⟩=some (.int .i64 (l.gen+1)):=(cell_of_row _ _ _ _ _ _ kn).trans rfl;have n1:wr.cell? ⟨nb,1,none⟩=some (.slice (some ⟨gg,0,none⟩) l.segs.length cap):=(cell_of_row _ _ _ _ _ _ kn).trans rfl;have n0d:wr.drew.cell? ⟨nb,0,none⟩=some (.int .i64 (l.gen+1)):=n0;have n1d:wr.drew.cell? ⟨nb,1,none⟩=some (.slice (some ⟨gg,0,none⟩) l.segs.length cap):=n1;have r0:wr.drew.cell? ⟨B+1,0,none⟩=some (.int .i64 0):=(cell_of_row _ _ _ _ _ _ kr).trans rfl;have r1:wr.drew.cell? ⟨B+1,1,none⟩=some (.slice none 0 0):=(cell_of_row _ _ _ _ _ _ kr).trans rfl;have rf0:wr.drew.frozen? ⟨B+1,0,none⟩=false:=frozen_of_row _ _ _ _ _ kr;have rf1:wr.drew.frozen? ⟨B+1,1,none⟩=false:=frozen_of_row _ _ _ _ _ kr;have q0:wr.cell? ⟨B+1,0,none⟩=some (.int .i64 0):=r0;have q1:wr.cell? ⟨B+1,1,none⟩=some (.slice none 0 0):=r1;have qf0:wr.frozen? ⟨B+1,0,none⟩=false:=rf0;have qf1:wr.frozen? ⟨B+1,1,none⟩=false:=rf1;have KR:=hid kr;clear kn kr hb2
    go_wp2_with fail
    go_region
    all_goals
     go_wp2_with fail
     obtain⟨Wf,hWf⟩:∃Wf,Wf=((wr.setCell ⟨B+1,0,none⟩ (.int .i64 (l.gen+1))).setCell ⟨B+1,1,none⟩ (.slice (some ⟨gg,0,none⟩) l.segs.length cap)).drew:=⟨_,rfl⟩;have hff:Fr (λj=>j=B+1) wr Wf:=by rw[hWf];exact(((Fr.refl (λj=>j=B+1) wr).setCell ⟨B+1,0,none⟩ (λ_=>rfl) _).setCell ⟨B+1,1,none⟩ (λ_=>rfl) _).drew
     have rff:Wf.heap[B+1]?=some (.cells #[.int .i64 (l.gen+1),.slice (some ⟨gg,0,none⟩) l.segs.length cap] 42 (0,0)):=by rw[hWf];exact heap_setCell_same _ _ _ _ _ _ (heap_setCell_same _ _ _ _ _ _ KR.out)
     have o0:Wf.cell? ⟨B+1,0,none⟩=some (.int .i64 (l.gen+1)):=(cell_of_row _ _ _ _ _ _ rff).trans rfl;have o1:Wf.cell? ⟨B+1,1,none⟩=some (.slice (some ⟨gg,0,none⟩) l.segs.length cap):=(cell_of_row _ _ _ _ _ _ rff).trans rfl;rw[← hWf];clear hWf n0 n1 n0d n1d r0 r1 rf0 rf1 q0 q1 qf0 qf1;have hge:∀y,(Value.ownBlock u8)=some y→C≤y:=λy e=>gt HFL.out e;have hbs:=HBC.out.size;have hcc:=HCC.out;have hbb:=HBB.out;have hgg:=HGG.out;have hfl:(qX l A).length=A.length:=by unfold qX;simp
     refine bodyPost_ret (v:=.tuple #[u8,.agg #[.int .i64 (l.gen+1),.slice (some ⟨gg,0,none⟩) l.segs.length cap],.int .i64 0]) (by simp[results,results28,go_sem,o0,o1]) rfl ⟨⟨u8,_,rfl,?_,?_,?_⟩,?_⟩
     ·have h:=hff.ownsRow HFL.out (λy hy e=>by have:=hge y hy;have:=HGC.out;have e2:y=B+1:=e;omega)
      rw[List.take_of_length_le (by omega)]at h;rw[← hfl]at h;exact az h (λy e=>by have:=hge y e;omega)
     ·have h:=HSK.out.kept hff (λy hy e=>by have e2:gg=y:=Option.some.inj hy;have e3:y=B+1:=e;omega)
      rw[List.take_length]at h;exact h
     ·intro y hy
      have e2:gg=y:=Option.some.inj hy;omega
     ·rw[← hbb]
      exact HBC.out.trans ((HFR.out.below (B:=B) (by omega) (λj hj e=>by have e2:j=gg:=e;omega)).trans (hff.below (by have:=HFR.out.size;omega) (λj hj e=>by have e2:j=B+1:=e;omega)))
theorem Ae (LF:List UInt8→List UInt8×Int){w0 w:World}(hl:vN w0)(hk:uL w0){p b:Nat}{st:cZ}{l:kR}(h:xG w0 w p b st)(hg:xJ LF st l){A:List qT}(ha:qV LF l=(A,0))(hA:A≠[])(hmx:99999999≤l.gen) :
  Calls prog 6 #[.pointer (some ⟨p,0,none⟩),.agg #[.int .i64 l.cfg.ss,.int .i64 l.cfg.ev,.int .u8 l.cfg.v]] w λe w'=>e = .returned (.tuple #[.pointer none,.int .i64 40])∧xG w0 w' p b st∧dY p b w w':=by
 have HL:=hid hl;have HK:=hid hk;have H:=hid h;have HG:=hid hg;have HA:=hid ha;have HMX:=hid hmx;have HFW:=hid hg.ok.few;have HP:=hid hg.ok.pos;have hal:((A.length:Int) == 0)=false:=by
  have:A.length≠0:=λe=>hA (List.eq_nil_of_length_eq_zero e);simp;omega
 clear hl hk h hg ha hmx
 go_enter func6,ntmps6
 obtain⟨W1,hW1⟩:∃W1,W1=w.alloc (.cells #[.int .i64 l.cfg.ss,.int .i64 l.cfg.ev,.int .u8 l.cfg.v] 24):=⟨_,rfl⟩;have hb1:Below w.heap.size w W1:=by rw[hW1];exact(Below.refl _ _).alloc (Nat.le_refl _) _
 have HBW:=hid hb1
 go_wp2_with fail
 rw[← hW1];clear hW1;refine(xI HL.out (H.out.pure hb1) HG.out.nmd HG.out.ok.cfg HG.out.ok HG.out.open_).mono ?_;rintro e w2 ⟨g,F,rfl,hf,hr⟩;have HR2:=hid ((Fr.pure (S:=λk=>k=p∨k=b) HBW.out).trans hr);have HF:=hid hf;clear hf H hb1 hr
 go_wp2_with fail
 refine(vw LF w2 F g p b st l HF.out.env HG.out.on HG.out.lit HG.out.ends (HK.out.pure HF.out.below) HG.out.lf HG.out.all).mono ?_;rw[HA.out];rintro e w3 ⟨⟨v,rfl,ho⟩,hb⟩;obtain⟨a,c,rfl⟩:=ho.shape;have HF3:=hid (HF.out.pure hb);have HR3:=hid (HR2.out.trans (Fr.pure hb));clear ho hb
 go_wp2_with fail
 refine(tm w3 F g p l HF3.out.env.lg HFW.out HP.out).mono ?_;rintro e w4 ⟨sv,rfl,hown,_,hb4⟩;obtain⟨sa,sc,rfl⟩:=hown.at.shape;have HF4:=hid (HF3.out.pure hb4);have HR4:=hid (HR3.out.trans (Fr.pure hb4));clear hown hb4
 go_wp2_with fail
 obtain⟨W5,hW5⟩:∃W5,W5=w4.alloc (.cells #[.int .i64 l.gen,.slice sa l.segs.length sc] 42):=⟨_,rfl⟩;have hb5:Below w4.heap.size w4 W5:=by rw[hW5];exact(Below.refl _ _).alloc (Nat.le_refl _) _
 have HF5:=hid (HF4.out.pure hb5);have HR5:=hid (HR4.out.trans (Fr.pure hb5));clear hb5;rw[← hW5];clear hW5;refine(zZ W5 l.gen _ _ _ _ HMX.out).mono ?_;rintro e w6 ⟨rfl,hb6⟩;have HF6:=hid (HF5.out.pure hb6);have HR6:=hid (HR5.out.trans (Fr.pure hb6));clear hb6;go_wp2;exact bodyPost_ret (v:=.tuple #[.pointer none,.int .i64 40]) (by simp[results,results6,go_sem]) rfl ⟨rfl,HF6.out.mtd.pure ((Below.refl _ _).alloc (Nat.le_refl _) _),HR6.out.trans (Fr.pure ((Below.refl _ _).alloc (Nat.le_refl _) _))⟩
theorem Af {n:List UInt8}{r:List (List UInt8)}{st s:cZ}(h:kT (goS (n::r)) st=(s,0)):(eh st n).2=0∧kT (goS r) (eh st n).1=(s,0):=by
 rw[show goS (n::r)=(λst=>eh st n)::goS r from rfl,vy]at h;by_cases h0:(eh st n).2=0
 ·rw[if_neg (by simpa using h0)]at h
  exact⟨h0,h⟩
 ·rw[if_pos (by simpa using h0)]at h
  exact absurd (congrArg Prod.snd h) h0
theorem Ag (LF:List UInt8→List UInt8×Int){w0 w:World}(hl:vN w0)(hk:uL w0){p b:Nat}{st s1 s2 s3 s4:cZ}{l l':kR}(h:xG w0 w p b st)(hg:xJ LF st l){A:List qT}(ha:qV LF l=(A,0))(hA:A≠[])(hgen:0≤l.gen)(hlt:l.gen<99999999)(hok:∀x∈A,AnewOk l x)(hal:A.length≤1000000)
  (hfl:∀f∈qX l A,f.1.length≤100∧f.2.length≤1048576) (hm:bL (l.gen+1) (qW l A)=true) (h1:kT (qY (qX l A)) st=(s1,0)) (h2:jt s1 (l.gen+1) (qW l A)=(s2,0)) (h3:kT (goS (qZ l A)) s2=(s3,0)) (hn3:named s3=true) (hk':lu l') (ho':mD s3 l.cfg=(s4,0,some l')) :
  Calls prog 6 #[.pointer (some ⟨p,0,none⟩),.agg #[.int .i64 l.cfg.ss,.int .i64 l.cfg.ev,.int .u8 l.cfg.v]] w λe w'=>∃g F,e = .returned (.tuple #[.pointer (some ⟨g,0,none⟩),.int .i64 0])∧xy w0 w' F g p b s4 l'∧dY p b w w':=by
 have HL:=hid hl;have HK:=hid hk;have H:=hid h;have HG:=hid hg;have HA:=hid ha;have HGN:=hid (And.intro hgen (And.intro hlt (And.intro hok (And.intro hal (And.intro hfl hm)))));have HST:=hid (And.intro h1 (And.intro h2 (And.intro h3 (And.intro hn3 (And.intro hk' ho')))));have HFW:=hid hg.ok.few;have HP:=hid hg.ok.pos;have hne:((A.length:Int) == 0)=false:=by
  have:A.length≠0:=λe=>hA (List.eq_nil_of_length_eq_zero e);simp;omega
 clear hl hk h hg ha hgen hlt hok hal hfl hm h1 h2 h3 hn3 hk' ho' hA
 go_enter func6,ntmps6
 obtain⟨W1,hW1⟩:∃W1,W1=w.alloc (.cells #[.int .i64 l.cfg.ss,.int .i64 l.cfg.ev,.int .u8 l.cfg.v] 24):=⟨_,rfl⟩;have hb1:Below w.heap.size w W1:=by rw[hW1];exact(Below.refl _ _).alloc (Nat.le_refl _) _
 have KC:=hid (show W1.heap[w.heap.size]?=some (.cells #[.int .i64 l.cfg.ss,.int .i64 l.cfg.ev,.int .u8 l.cfg.v] 24 (0,0))from by rw[hW1];exact heap_alloc_new _ _);have HPB:=hid (show w.heap.size≠p∧w.heap.size≠b from by have:=H.out.dk.lt;have:=H.out.dk.own.lt;omega);have HBW:=hid hb1
 go_wp2_with fail
 rw[← hW1];clear hW1;refine(xI HL.out (H.out.pure hb1) HG.out.nmd HG.out.ok.cfg HG.out.ok HG.out.open_).mono ?_;rintro e w2 ⟨g,F,rfl,hf,hr2⟩;have HF:=hid hf;have HR2:=hid hr2;clear hf H hb1 hr2
 go_wp2_with fail
 refine(vw LF w2 F g p b st l HF.out.env HG.out.on HG.out.lit HG.out.ends (HK.out.pure HF.out.below) HG.out.lf HG.out.all).mono ?_;rw[HA.out];rintro e w3 ⟨⟨v,rfl,ho⟩,hb⟩;obtain⟨a,c,rfl⟩:=ho.shape;have HO3:=hid ho;have HF3:=hid (HF.out.pure hb);have HR3:=hid (HR2.out.trans (Fr.pure hb));have HZ3:=hid hb.size;have HP2:=hid (show p<w2.heap.size∧b<w2.heap.size from⟨HF.out.env.dk.lt,HF.out.env.dk.own.lt⟩);clear ho hb
 go_wp2_with fail
 refine(tm w3 F g p l HF3.out.env.lg HFW.out HP.out).mono ?_;rintro e w4 ⟨sv,rfl,hown,hob,hb4⟩;obtain⟨sa,sc,rfl⟩:=hown.at.shape;have HF4:=hid (HF3.out.pure hb4);have HS4:=hid (And.intro hown.at hob);have HB34:=hid hb4;clear hown hb4 hob
 go_wp2_with fail
 obtain⟨W5,hW5⟩:∃W5,W5=w4.alloc (.cells #[.int .i64 l.gen,.slice sa l.segs.length sc] 42):=⟨_,rfl⟩;have hb5:Below w4.heap.size w4 W5:=by rw[hW5];exact(Below.refl _ _).alloc (Nat.le_refl _) _
 have K5:=hid (show W5.heap[w4.heap.size]?=some (.cells #[.int .i64 l.gen,.slice sa l.segs.length sc] 42 (0,0))from by rw[hW5];exact heap_alloc_new _ _);have HF5:=hid (HF4.out.pure hb5);have HS5:=hid (HS4.out.1.pure hb5);have HB35:=hid (HB34.out.trans (hb5.mono HB34.out.size));rw[← hW5];clear hW5 hb5;refine(zY W5 HF5.out.env.pow l _ HS5.out HP.out (by have:=HFW.out;omega) HGN.out.1 HGN.out.2.1 w2.heap.size _ A (HO3.out.pure HB35.out) HGN.out.2.2.1 HGN.out.2.2.2.1).mono ?_;rintro e w6 ⟨⟨fv,nv,rfl,hf6,hs6,hn6⟩,hb6⟩;obtain⟨na,nc,rfl⟩:=hs6.shape;have HB36:=hid (HB35.out.trans (hb6.mono HB35.out.size));have K6:=hid ((hb6.block _ (lt_of_block K5.out)).trans K5.out);have HS6:=hid (HS5.out.pure hb6);obtain⟨W7,hW7⟩:∃W7,W7=w6.alloc (.cells #[.int .i64 (l.gen+1),.slice na (qW l A).length nc] 42):=⟨_,rfl⟩;have hb7:Below w6.heap.size w6 W7:=by rw[hW7];exact(Below.refl _ _).alloc (Nat.le_refl _) _
 have k7:W7.heap[w6.heap.size]?=some (.cells #[.int .i64 (l.gen+1),.slice na (qW l A).length nc] 42 (0,0)):=by rw[hW7];exact heap_alloc_new _ _
 have HB37:=hid (HB36.out.trans (hb7.mono HB36.out.size));have HF7:=hid (HF3.out.pure HB37.out);have HN7:=hid (And.intro (FlAt.of_own ((Fr.pure (S:=λ_=>False) hb7).ownsRow hf6 (λ_ _ e=>e))) (And.intro (hs6.pure hb7) (And.intro (show ∀k,fv.ownBlock=some k→W5.heap.size≤k from λk e=>gt hf6 e) hn6)));have K7:=hid ((hb7.block _ (lt_of_block K6.out)).trans K6.out);have HS7:=hid (HS6.out.pure hb7);have HZ5:=hid (show w2.heap.size≤w3.heap.size∧w3.heap.size≤W5.heap.size∧w3.heap.size≤w4.heap.size from⟨HZ3.out,HB35.out.size,HB34.out.size⟩);clear hf6 hs6 hn6 hb6 hb7
 go_wp2_with fail
 rw[← hW7];clear hW7;have hz:=HZ5.out;have hpz:=HP2.out;refine(Ad W7 p b st HF7.out.env.dk fv (qX l A) HN7.out.1 HGN.out.2.2.2.2.1 (by unfold qX;rw[List.length_map];exact HGN.out.2.2.2.1) (λk e=>by have:=HN7.out.2.2.1 k e;omega) (l.gen+1) _ (qW l A) HN7.out.2.1 (λk e=>by have:=HN7.out.2.2.2 k e;omega) (by rw[zW];have:=HFW.out;omega) HGN.out.2.2.2.2.2 HST.out.1 HST.out.2.1).mono ?_;rintro e w8 ⟨rfl,hd8,hf8⟩;have HO8:=hid (HF7.out.mtd.op hd8 hf8);have HR8:=hid ((HR3.out.trans (Fr.pure HB37.out)).trans hf8);have HR38:=hid ((Fr.pure (S:=λk=>k=p∨k=b) HB37.out).trans hf8);have HS8:=hid (HS7.out.kept hf8 (λk e=>by have:=HS4.out.2 k e;show ¬(k=p∨k=b);omega));have k8:=hf8.heapAt K7.out (by show ¬(w4.heap.size=p∨w4.heap.size=b);omega);have m0:w8.cell? ⟨w4.heap.size,0,none⟩=some (.int .i64 l.gen):=(cell_of_row _ _ _ _ _ _ k8).trans rfl;have m1:w8.cell? ⟨w4.heap.size,1,none⟩=some (.slice sa l.segs.length sc):=(cell_of_row _ _ _ _ _ _ k8).trans rfl;clear hd8 hf8 k8
 go_wp2_with fail
 refine(gw w8 (HL.out.pure HO8.out.below).pow l.gen _ l.segs HS8.out HG.out.ok.may).mono ?_;rintro e w9 ⟨v9,rfl,hb9,hn9⟩;have ht9:rZ w9 v9 (l.segs.map gu):=rZ.of_own (show rX w9 (w8.heap.size+1) v9 (l.segs.map gu)from by unfold rX;rw[List.length_map];exact hn9);have HGE:=hid (show ∀y,v9.ownBlock=some y→w8.heap.size≤y from λy e=>by have:=gt hn9 e;omega);have HT9:=hid ht9;obtain⟨va,vc,rfl,hva⟩:=ht9;have HVA:=hid hva;have HO9:=hid (HO8.out.pure hb9);have HR9:=hid (HR8.out.trans (Fr.pure hb9));have HR39:=hid (HR38.out.trans (Fr.pure hb9));have HP8:=hid (show p<w8.heap.size∧b<w8.heap.size from⟨HO8.out.dk.lt,HO8.out.dk.own.lt⟩);have hll:(l.segs.map gu).length=l.segs.length:=List.length_map _;rw[hll];clear hb9 hn9 m0 m1 hva
 go_wp2_with fail
 go_loopw [63] (λi wr=>∃(k:Nat) (sk:cZ),i = .int .i64 k∧k≤A.length∧Hid (db wr p b sk)∧Hid (dY p b w9 wr)∧Hid (kT (goS ((qZ l A).drop k)) sk=(s3,0))) (λi _=>A.length-(intOf i).toNat)
 case atStart=>exact⟨0,s2,rfl,by omega,hid HO9.out.dk,hid (Fr.refl _ _),hid HST.out.2.2.1⟩
 case round=>
  obtain⟨k,sk,rfl,hk,HD,HFR,HQ⟩:=hrel;by_cases hlt:k<A.length
  ·have hk1:k+1≤A.length:=hlt
   have hal:=HGN.out.2.2.2.1;obtain⟨ga,ta,tc,rfl,hga,ac0,ac1,_,_⟩:=HO3.out.at k hlt;have hat:A[k].1<l.segs.length:=(HGN.out.2.2.1 _ (List.getElem_mem hlt)).lt;obtain⟨gv,x,rfl,hx,hcv⟩:=HVA.out A[k].1 (by rw[hll];exact hat);have hgv:=HGE.out gv rfl;have hp8:=HP8.out;have a0:wr.cell? ⟨ga,k*2,none⟩=some (.int .i64 (A[k].1:Int)):=HFR.out.cellAt (HR39.out.cellAt ac0 (by show ¬(ga=p∨ga=b);omega)) (by show ¬(ga=p∨ga=b);omega);have a1:wr.cell? ⟨ga,k*2+1,none⟩=some (.slice ta A[k].2.length tc):=HFR.out.cellAt (HR39.out.cellAt ac1 (by show ¬(ga=p∨ga=b);omega)) (by show ¬(ga=p∨ga=b);omega);have v0:wr.cell? ⟨gv,A[k].1,none⟩=some (.string x):=HFR.out.cellAt hcv (by show ¬(gv=p∨gv=b);omega);have v0':∀o,(wr.alloc o).cell? ⟨gv,A[k].1,none⟩=some (.string x):=λo=>(World.cell?_alloc_past _ _ _ (aw v0)).trans v0;obtain⟨W10,hW10⟩:∃W10,W10=wr.alloc (.cells #[.int .i64 (A[k].1:Int),.slice ta A[k].2.length tc] 81):=⟨_,rfl⟩;have hb10:Below wr.heap.size wr W10:=by rw[hW10];exact(Below.refl _ _).alloc (Nat.le_refl _) _
   have ho:(qZ l A).drop k=x.data.toList::(qZ l A).drop (k+1):=by
    rw[List.drop_eq_getElem_cons (by unfold qZ;rw[List.length_map];exact hlt)];congr 1;unfold qZ;rw[List.getElem_map,List.getElem?_eq_getElem hat,hx,List.getElem_map];rfl
   have hq:=HQ.out;rw[ho]at hq;have HQ1:=hid (Af hq);have hxs:x.size≤100:=by rw[← ak,hx];exact xQ HG.out.ok.may (List.getElem_mem _)
   have HD10:=hid (HD.out.pure hb10);have HF10:=hid (HFR.out.trans (Fr.pure hb10));clear ho hq HQ hx hcv ac0 ac1 hb10
   go_wp2_with fail
   rw[← hW10];clear hW10;refine(eC W10 p b sk HD10.out x (by unfold maxLen;omega)).mono ?_;rintro e w11 ⟨rfl,hd11,hf11⟩;rw[HQ1.out.1];have HD11:=hid hd11;have HF11:=hid (HF10.out.trans hf11);clear hd11 hf11 a0 a1 v0 v0';go_wp2
   go_roundw
   case rel=>exact⟨k+1,_,by go_num,hk1,HD11,HF11,hid HQ1.out.2⟩
   case measure=>simp[intOf];omega
  ·have hs3:sk=s3:=by
    have h:=HQ.out;rw[List.drop_of_length_le (by unfold qZ;rw[List.length_map];omega)]at h;exact congrArg Prod.fst h
   have kc:=(HR9.out.trans HFR.out).heapAt KC.out (by show ¬(w.heap.size=p∨w.heap.size=b);have:=HPB.out;omega);have c0:wr.cell? ⟨w.heap.size,0,none⟩=some (.int .i64 l.cfg.ss):=(cell_of_row _ _ _ _ _ _ kc).trans rfl;have c1:wr.cell? ⟨w.heap.size,1,none⟩=some (.int .i64 l.cfg.ev):=(cell_of_row _ _ _ _ _ _ kc).trans rfl;have c2:wr.cell? ⟨w.heap.size,2,none⟩=some (.int .u8 l.cfg.v):=(cell_of_row _ _ _ _ _ _ kc).trans rfl;have HOR:=hid (HO9.out.op (show db wr p b s3 from by rw[← hs3];exact HD.out) HFR.out);clear kc hs3
   go_wp2_with fail
   refine(xI HL.out HOR.out HST.out.2.2.2.1 HG.out.ok.cfg HST.out.2.2.2.2.1 HST.out.2.2.2.2.2).mono ?_;rintro e w12 ⟨g2,F2,rfl,hf12,hr12⟩;have HF12:=hid (And.intro hf12 ((((Fr.pure (S:=λk=>k=p∨k=b) HBW.out).trans HR9.out).trans HFR.out).trans hr12));clear hf12 c0 c1 c2;go_wp2;exact bodyPost_ret (v:=.tuple #[.pointer (some ⟨g2,0,none⟩),.int .i64 0]) (by simp[results,results6,go_sem]) rfl ⟨g2,F2,rfl,HF12.out⟩
def Ah (l:kR)(x:qT):Bool:=match l.segs[x.1]? with
 | some s=>decide (0≤s.2) && decide (s.2.toNat<1048576) && decide (s.2.toNat+x.2.length≤1048576) && decide ((iR s.2.toNat x.2).length≤1048576) && decide (x.2.length≤1000000) && x.2.all (λp=>decide (1≤p.length) && decide (p.length≤4096))
 | none=>false
theorem Ai {l:kR}{x:qT}(h:Ah l x=true):AnewOk l x:=by
 unfold Ah at h;cases e:l.segs[x.1]? with
 | none=>rw[e]at h;cases h
 | some s=>
  rw[e]at h;obtain⟨h1,h2⟩:=List.getElem?_eq_some_iff.1 e;simp only[Bool.and_eq_true,decide_eq_true_eq,List.all_eq_true]at h;obtain⟨⟨⟨⟨⟨a1,a2⟩,a3⟩,a4⟩,a5⟩,a6⟩:=h;exact⟨h1,λp hp=>a6 p hp,s.2.toNat,by rw[h2];omega,a2,a3,a4,a5⟩
theorem Aj:(qV ri rk).1.all (Ah rk)=true∧(qX rk (qV ri rk).1).all (λf=>decide (f.1.length≤100) && decide (f.2.length≤1048576))=true∧bL (rk.gen+1) (qW rk (qV ri rk).1)=true:=by decide +kernel
theorem Ak (w:World){F1 F2:Nat→Prop}{g1 g2 p b:Nat}{st:cZ}{l:kR}(h1:tp w F1 g1 p b st l)(h2:tp w F2 g2 p b st l)(hon:LgOn st l)(hlit:st.dark=false)(hf:l.first=0)(hn:l.next=0) :
  Calls prog 10 #[.pointer (some ⟨g1,0,none⟩),.pointer (some ⟨g2,0,none⟩)] w λe w'=>e = .returned (.bool true)∧Below w.heap.size w w':=by
 have H1:=hid h1;have H2:=hid h2;have HON:=hid (And.intro hon hlit);have HFN:=hid (And.intro hf hn);have HP:=hid h1.ok.pos;have HFW:=hid h1.ok.few;have HLN:=hid h1.ok.len;clear h1 h2 hon hlit hf hn
 go_enter func10,ntmps10
 go_wp2_with fail
 refine(s9 w F1 g1 p l H1.out.lg HP.out).mono ?_;rintro e w' ⟨rfl,rfl⟩
 go_wp2_with fail
 refine(s9 w F2 g2 p l H2.out.lg HP.out).mono ?_;rintro e w' ⟨rfl,rfl⟩
 go_wp2_with fail
 refine(sZ w F1 g1 p l H1.out.lg (by have:=HP.out;have:=HLN.out;omega) (by have:=HFW.out;have:=HLN.out;omega)).mono ?_;rintro e w1 ⟨rfl,hb1⟩;have HB1:=hid hb1;clear hb1
 go_wp2_with fail
 refine(sZ w1 F2 g2 p l (H2.out.pure HB1.out).lg (by have:=HP.out;have:=HLN.out;omega) (by have:=HFW.out;have:=HLN.out;omega)).mono ?_;rintro e w2 ⟨rfl,hb2⟩;have HB2:=hid (HB1.out.trans (hb2.mono HB1.out.size));clear hb2
 go_wp2_with fail
 refine(tm w2 F1 g1 p l (H1.out.pure HB2.out).lg HFW.out HP.out).mono ?_;rintro e w3 ⟨sv1,rfl,ho1,_,hb3⟩;have HB3:=hid (HB2.out.trans (hb3.mono HB2.out.size));have HS1:=hid ho1.at;clear ho1 hb3
 go_wp2_with fail
 refine(tm w3 F2 g2 p l (H2.out.pure HB3.out).lg HFW.out HP.out).mono ?_;rintro e w4 ⟨sv2,rfl,ho2,_,hb4⟩;have HB4:=hid (HB3.out.trans (hb4.mono HB3.out.size));have HS2:=hid (And.intro (HS1.out.pure hb4) ho2.at);clear ho2 hb4
 go_wp2_with fail
 refine(cv w4 l.gen l.gen sv1 sv2 l.segs l.segs HS2.out.1 HS2.out.2 (by have:=HFW.out;omega) (by have:=HFW.out;omega)).mono ?_;rw[show(decide (l.gen=l.gen) && l.segs == l.segs)=true from by simp];rintro e w5 ⟨rfl,hb5⟩;have HB5:=hid (HB4.out.trans (hb5.mono HB4.out.size));clear hb5
 go_wp2_with fail
 refine(s9 w5 F1 g1 p l (H1.out.pure HB5.out).lg HP.out).mono ?_;rintro e w' ⟨rfl,rfl⟩
 go_wp2_with fail
 refine(sZ w5 F1 g1 p l (H1.out.pure HB5.out).lg (by have:=HP.out;have:=HLN.out;omega) (by have:=HFW.out;have:=HLN.out;omega)).mono ?_;rintro e w6 ⟨rfl,hb6⟩;have HB6:=hid (HB5.out.trans (hb6.mono HB5.out.size));clear hb6
 go_wp2_with fail
 have hr1:=vt w6 F1 g1 p b st l (H1.out.pure HB6.out) HON.out.1 HON.out.2 0 0 (by rw[HFN.out.1];exact Int.le_refl _) (Nat.le_refl _) (Nat.zero_le _);have hf0:(.int .i64 l.first:Value) = .int .i64 ((0:Nat):Int):=by rw[HFN.out.1];rfl
 have hn0:(.int .i64 (l.next:Int):Value) = .int .i64 ((0:Nat):Int):=by rw[HFN.out.2]
 rw[hf0,hn0];refine hr1.mono ?_;rintro e w7 ⟨⟨v1,rfl,ho1⟩,hb7⟩;have ht1:=rZ.of_own ho1;rw[Nat.sub_self,List.take_zero]at ht1;obtain⟨a1,c1,rfl,_⟩:=ht1;rw[List.length_nil];have HB7:=hid (HB6.out.trans (hb7.mono HB6.out.size));clear hb7 ho1 hr1
 go_wp2_with fail
 refine(s9 w7 F2 g2 p l (H2.out.pure HB7.out).lg HP.out).mono ?_;rintro e w' ⟨rfl,rfl⟩
 go_wp2_with fail
 refine(sZ w7 F2 g2 p l (H2.out.pure HB7.out).lg (by have:=HP.out;have:=HLN.out;omega) (by have:=HFW.out;have:=HLN.out;omega)).mono ?_;rintro e w8 ⟨rfl,hb8⟩;have HB8:=hid (HB7.out.trans (hb8.mono HB7.out.size));clear hb8
 go_wp2_with fail
 have hr2:=vt w8 F2 g2 p b st l (H2.out.pure HB8.out) HON.out.1 HON.out.2 0 0 (by rw[HFN.out.1];exact Int.le_refl _) (Nat.le_refl _) (Nat.zero_le _);refine(show Calls prog 44 #[.pointer (some ⟨g2,0,none⟩),.int .i64 0,.int .i64 0] w8 _ from hr2).mono ?_;rintro e w9 ⟨⟨v2,rfl,ho2⟩,hb9⟩;have ht2:=rZ.of_own ho2;rw[Nat.sub_self,List.take_zero]at ht2;obtain⟨a2,c2,rfl,_⟩:=ht2;rw[List.length_nil];have HB9:=hid (HB8.out.trans (hb9.mono HB8.out.size));clear hb9 ho2 hr2 hf0 hn0
 go_wp2_with fail
 refine wp_loop_rounds 1 ?_;rw[rounds_succ];go_wp2;go_ret;exact⟨rfl,HB9.out⟩
theorem Dx {α β:Type}{x:α×β}{c:β}(h:x.2=c):x=(x.1,c):=by subst h;rfl
theorem Dy {α β γ:Type}{x:α×β×γ}{b:β}{c:γ}(h1:x.2.1=b)(h2:x.2.2=c):x=(x.1,b,c):=by subst h1 h2;rfl
theorem Dz:qV ri rk=((qV ri rk).1,0):=Dx rG.2.2.2.2.2.1
theorem DA:kT (qY (qX rk (qV ri rk).1)) mxS.1=(rH.1,0):=(Dx rK.1:rH=(rH.1,0))
theorem DB:jt rH.1 (rk.gen+1) (qW rk (qV ri rk).1)=(rI.1,0):=by
 rw[show rk.gen+1=1 from rfl];exact(Dx rK.2.1:rI=(rI.1,0))
theorem DC:kT (goS (qZ rk (qV ri rk).1)) rI.1=(rJ.1,0):=(Dx rK.2.2.1:rJ=(rJ.1,0))
theorem DD:jt mxQ.1 mxK.gen (mxK.segs.drop 2)=(mxC.1,0):=by
 rw[show mxK.gen=1 from rfl];exact(Dx rR.2.2.1:mxC=(mxC.1,0))
theorem DE:kT (goS ((mxK.segs.map gu).take 2)) mxC.1=(mxE.1,0):=(Dx rR.2.2.2.1:mxE=(mxE.1,0))
theorem DF:qA mxE.1 5=(mxF.1,0):=(Dx rR.2.2.2.2.1:mxF=(mxF.1,0))
theorem DG:pV rN.1 q9=(mxQ.1,0,some mxK):=(Dy rP.1 (p9 rP.2.1):mxQ=(mxQ.1,0,some mxK))
theorem DH:pV mxF.1 q9=(mxH.1,0,some mxJ):=(Dy rS.1 (p9 rS.2):mxH=(mxH.1,0,some mxJ))
theorem DI:(qV ri rk).1≠[]:=λe=>by have:=rG.2.2.2.2.2.2;rw[e]at this;cases this
theorem DJ:∀x∈(qV ri rk).1,AnewOk rk x:=λx hx=>Ai (List.all_eq_true.1 Aj.1 x hx)
theorem DK:∀f∈qX rk (qV ri rk).1,f.1.length≤100∧f.2.length≤1048576:=λf hf=>by
 have:=List.all_eq_true.1 Aj.2.1 f hf;simpa only [Bool.and_eq_true,decide_eq_true_eq]using this
theorem DL:mD rJ.1 rk.cfg=(rJ.1,0,some mxK):=by
 rw[show rk.cfg=mxK.cfg from rfl];exact mM (l:=mxK) rK.2.2.2.2.2.2.1 (ru rK.2.2.2.2.1) (rA rK.2.2.2.1)
theorem DM {w0 w:World}(hl:vN w0)(hk:uL w0){p b:Nat}(h:xG w0 w p b mxS.1) :
  Calls prog 6 #[.pointer (some ⟨p,0,none⟩),.agg #[.int .i64 rk.cfg.ss,.int .i64 rk.cfg.ev,.int .u8 rk.cfg.v]] w λe w'=>∃g F,e = .returned (.tuple #[.pointer (some ⟨g,0,none⟩),.int .i64 0])∧xy w0 w' F g p b rJ.1 mxK∧dY p b w w':=by
 have hgen:0≤rk.gen∧rk.gen<99999999:=by decide
 have hlen:(qV ri rk).1.length≤1000000:=by rw[rG.2.2.2.2.2.2];decide
 exact Ag (s1:=rH.1) (s2:=rI.1) (s3:=rJ.1) (s4:=rJ.1) (l:=rk) (l':=mxK) (A:=(qV ri rk).1) ri hl hk h zt Dz DI hgen.1 hgen.2 DJ hlen DK Aj.2.2 DA DB DC rK.2.2.2.2.2.1 (ru rK.2.2.2.2.1) DL
theorem DN {w0 w:World}(hl:vN w0)(hk:uL w0){p b:Nat}(h:xG w0 w p b mxS.1) :
  Calls prog 7 #[.pointer (some ⟨p,0,none⟩),.agg #[.int .i64 rk.cfg.ss,.int .i64 rk.cfg.ev,.int .u8 rk.cfg.v]] w λe w'=>e = .returned (.tuple #[.int .i64 2,.int .i64 0])∧xG w0 w' p b mxS.1∧dY p b w w':=by
 refine(xK (l:=rk) ri hl hk h zt).mono ?_;rw[rG.2.2.2.2.2.2,rG.2.2.2.2.2.1];exact λ_ _ h=>h
def mxT (n:Nat):Option Nat:=if n=1 then some 10 else if n=5 then some 50 else none
theorem DO:qp (mxQ.1.fs.map (·.name))=[1,5]:=by rw[← qy];exact rP.2.2.2.2
theorem DP:mD rN.1 q9=(mxQ.1,0,some mxK):=(pW _ _).trans DG
theorem DQ:mD mxF.1 q9=(mxH.1,0,some mxJ):=(pW _ _).trans DH
theorem DR:qt mxE.1 5=(mxF.1,0):=(qB _ _).symm.trans DF
theorem DS:lu mxJ:=ru (by decide +kernel)
theorem DT:∀n∈qp (mxQ.1.fs.map (·.name)),Df mxQ.1 mxT n:=by
 rw[DO];intro n hn;simp at hn
 rcases hn with rfl|rfl
 ·exact⟨by decide,rQ.1⟩
 ·exact⟨by decide,rQ.2⟩
theorem DU:∀n∈qp (mxQ.1.fs.map (·.name)),n≤1048576:=by
 rw[DO];intro n hn;simp at hn;omega
theorem DV:Db mxT (C4 mxK.first (mxK.next:Int) (qp (mxQ.1.fs.map (·.name)))) = .tuple #[.int .i64 ((5:Nat):Int),AZ 50 0 1 1,A5,.bool true,.int .i64 0]:=by
 rw[DO,show C4 mxK.first (mxK.next:Int) [1,5]=[5,1]from by decide];rfl
theorem DW:rm ((5:Nat):Int) mxK.segs=2:=rR.1
theorem DX:bL mxK.gen (mxK.segs.drop 2)=true:=rR.2.1
theorem DY:qt mxE.1 ((5:Nat):Int)=(mxF.1,0):=DR
theorem DZ {w0 w:World}(hl:vN w0)(hz:xB w0){p b:Nat}(h:xG w0 w p b rN.1) :
  Calls prog 5 #[.pointer (some ⟨p,0,none⟩),.agg #[.int .i64 q9.ss,.int .i64 q9.ev,.int .u8 q9.v]] w λe w'=>∃g F,e = .returned (.tuple #[.pointer (some ⟨g,0,none⟩),.int .i64 0])∧xy w0 w' F g p b mxH.1 mxJ∧dY p b w w':=by
 have h1:kN q9=true:=by decide
 have h2:(0:Nat)<2∧2<mxK.segs.length:=by decide
 exact Dm (s1:=mxQ.1) (s2:=mxC.1) (s3:=mxE.1) (s4:=mxF.1) (s5:=mxH.1) (c:=q9) (l:=mxK) (l':=mxJ) (q:=5) (x:=50) (k:=2) hl hz h rO.2.2 h1 (ru rK.2.2.2.2.1) DP rP.2.2.2.1 mxT DT DU DV DW h2.1 h2.2 DX DD DE DY rR.2.2.2.2.2 DS DQ
end
end Go.Proofs.YthjjgcfdhkhelaaGreatDoor
