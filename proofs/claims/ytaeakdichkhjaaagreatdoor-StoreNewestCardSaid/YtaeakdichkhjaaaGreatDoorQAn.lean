/- The walks of snap.list over each kind of thing, by whatever closure reads one. -/
import Derived.Deep.AppendLies
import Derived.Test.YtaeakdichkhjaaaGreatDoorQAk
import Derived.Test.YtaeakdichkhjaaaGreatDoorQAh
import Derived.Test.YtaeakdichkhjaaaGreatDoorQAm
import Derived.Test.YtaeakdichkhjaaaGreatDoorQAi
set_option maxHeartbeats 4000000
open Go.Lib(hid)
namespace Go.Proofs.YtaeakdichkhjaaaGreatDoor
section
open Go.RowKit
theorem nM (s:List UInt8)(most frm:Nat):∀(f k n:Nat) (st:RdSt),(bJ s most frm f k n st).1≤most
 | 0,k,n,st=>by rw[bJ];exact Nat.zero_le _
 | f+1,k,n,st=>by
  rw[bJ]
  split
  ·exact Nat.zero_le _
  ·split
   ·exact Nat.zero_le _
   ·split
    ·split
     ·exact Nat.zero_le _
     ·rename_i h;exact Nat.le_of_not_lt h
    ·exact nM s most frm f _ _ _
theorem nN (s:List UInt8)(most:Nat)(st:RdSt):(st.short s most).1≤most:=by
 unfold RdSt.short
 split
 ·exact Nat.zero_le _
 ·exact nM _ _ _ _ _ _ _
theorem nO (s:List UInt8)(r:RS)(n:Nat)(hn:n≤9223372036854775807):0≤(r.upTo s n).1∧(r.upTo s n).1≤n:=by
 have:=nN s n r.st;unfold RS.upTo;show 0≤wrap64 _∧wrap64 _≤_;unfold wrap64;omega
theorem nP (s:ByteArray):s.data.toList.length=s.size:=by rw[Array.length_toList];rfl
theorem RrAt.drewN {w:World}{q p:Nat}{s:ByteArray}{r:RS}(h:RrAt w q p s r)(n:Nat):RrAt (w.drewN n) q p s r:=⟨h.cell,h.rd,h.ne⟩
theorem nQ {α:Type}{one:RS→α×RS}{n:Nat}{acc:List α}{r r2:RS}{x:α}(h:one r=(x,r2))(he:r2.st.e≠0):mj one (n+1) acc r=([],r2):=by
 rw[mj,h,if_pos he]
theorem nR {α:Type}{one:RS→α×RS}{n:Nat}{acc:List α}{r r2:RS}{x:α}(h:one r=(x,r2))(he:r2.st.e=0):mj one (n+1) acc r=mj one n (acc++[x]) r2:=by
 rw[mj,h,if_neg (λh=>h he)]
theorem SlAt.lt {α:Type}{enc:α→List Value}{k:Nat}{F:Nat→Prop}{w:World}{sv:Value}{xs:List α}(h:SlAt enc k F w sv xs)(hz:∀x,∃v,(enc x)[0]?=some v):SlAt enc k (λg=>F g∧g<w.heap.size) w sv xs:=by
 obtain⟨a,c,rfl,hc,h|⟨b,o,rfl,hb,h⟩⟩:=h
 ·exact⟨a,c,rfl,hc,.inl h⟩
 ·match xs,h with
  | [],h=>exact⟨_,c,rfl,hc,.inl rfl⟩
  | x::r,h=>
   obtain⟨v,hv⟩:=hz x;exact⟨_,c,rfl,hc,.inr ⟨b,o,rfl,⟨hb,aA (h 0 (by simp) 0 v hv)⟩,h⟩⟩
theorem Tryz.infoAcc:(Tryz.prog.info? 70).map (λi=>(i.zero,i.size,i.bytes))=some (some (.agg #[.string ⟨#[]⟩,.bool false]),2,24):=by kernel_rfl
abbrev OwnAcc (w:World) (base:Nat) (v:Value) (xs:List AccD):Prop:=w.ownsRow base 70 2 v xs.length (xs.flatMap AccD.cells)
theorem AccD.cells_len (x:AccD):x.cells.length=2:=rfl
theorem nS {w:World}{base:Nat}{v:Value}{xs:List AccD}{x:AccD}(h:w.ownsRow base 70 2 v (xs.length+1) (xs.flatMap AccD.cells++x.cells)):OwnAcc w base v (xs++[x]):=by
 show w.ownsRow base _ 2 v (xs++[x]).length ((xs++[x]).flatMap AccD.cells);rw[List.length_append,List.flatMap_append,List.flatMap_cons,List.flatMap_nil,List.append_nil];exact h
set_option maxRecDepth 100000 in
theorem nT (w:World)(q p:Nat)(s:ByteArray)(r:RS)(h:RrAt w q p s r)(hs:s.size≤1048576)(fk:FuncId)(c1:Value)(hent:Enters Tryz.prog fk)(one:RS→AccD×RS)
  (hcall:∀(W:World) (r1:RS),RrAt W q p s r1→Fr (λk=>k=p∨k=q) w W→Calls Tryz.prog fk #[c1] W λe w'=>e = .returned (one r1).1.agg∧RrTo W w' q p s (one r1).2) :
  Calls Tryz.prog 141 #[.pointer (some ⟨q,0,none⟩),.func (.func fk) #[] #[c1]] w λe w'=>(∃sv,e = .returned sv∧AccsAt (λg=>w.heap.size≤g) w' sv (r.list s.data.toList one).1)∧RrTo w w' q p s (r.list s.data.toList one).2:=by
 obtain⟨e0,e1,e2⟩:=h.cs;have hqp:=And.intro (lt_of_block h.cell) h.rd.lt;have HQP:=hid hqp;have HC:=hid hcall;have HU:=hid (mV w q p s r h s.size (by omega));have hb:=nO s.data.toList r s.size (by omega);unfold RS.list;rw[nP];obtain⟨⟨n0,r0⟩,hR⟩:∃R,R=r.upTo s.data.toList s.size:=⟨_,rfl⟩;rw[← hR]at HU hb ⊢;dsimp only at HU hb ⊢;obtain⟨N,rfl⟩:∃N:Nat,n0=(N:Int):=⟨n0.toNat,by omega⟩;rw[Int.toNat_natCast];have hN:N≤1048576:=by omega
 obtain⟨R,hRR⟩:∃R,R=mj one N [] r0:=⟨_,rfl⟩;rw[← hRR];have HRR:=hid hRR;have ent:∀(args:Array Value) (w:World),(callFunc fk args).run Tryz.prog w = .ok (.enter fk args) w:=hent;obtain⟨B,hB⟩:∃B,B=w.heap.size:=⟨_,rfl⟩;rw[← hB];have HBB:=hid hB;clear h hcall hR hent hRR hB hqp hb hs
 go_enter Tryz.func141,Tryz.ntmps141
 go_wp2_with fail
 refine HU.out.mono ?_;rintro e w1 ⟨rfl,h1,hf1⟩;have H1:=hid h1;have HF1:=hid hf1;clear h1 hf1 HU e0 e1 e2;go_wp2
 go_loopw [5,15] (λl i wr=>∃(acc:List AccD) (rk:RS),i = .int .i64 acc.length∧acc.length≤N∧Hid (OwnAcc wr B l acc)∧Hid (RrAt wr q p s rk)∧Hid (Fr (λk=>k=p∨k=q) w wr)∧Hid (R=mj one (N-acc.length) acc rk)) (λ_ i _=>N-(intOf i).toNat)
 case atStart=>exact⟨[],r0,rfl,by simp,hid (World.ownsRow_nil _ _ _ _),H1,HF1,HRR⟩
 case round=>
  obtain⟨acc,rk,rfl,hk,HO,HA,HF,HQ⟩:=hrel;obtain⟨l0,n0,c9,rfl⟩:=aD HO.out;by_cases hlt:acc.length<N
  ·have HCALL:=hid (HC.out wr rk HA.out HF.out)
   obtain⟨f,hf⟩:∃f,N-acc.length=f+1:=⟨N-acc.length-1,by omega⟩;have hq9:=HQ.out;rw[hf]at hq9;obtain⟨⟨x,r2⟩,hX⟩:∃X,X=one rk:=⟨_,rfl⟩;rw[← hX]at HCALL;dsimp only at HCALL;unfold AccD.agg at HCALL;have HQ9:=hid hq9;have HFF:=hid hf;have HXX:=hid hX.symm;clear hq9 hf hX HQ
   go_wp2_with fail
   refine HCALL.out.mono ?_;rintro e w3 ⟨rfl,h3,hf3⟩;obtain⟨d0,d1,d2⟩:=h3.cs;have hql:=lt_of_block h3.cell;obtain⟨W3,hW3⟩:∃W3,W3=w3.alloc (.cells #[.string ⟨x.name.toArray⟩,.bool x.opn] 70):=⟨_,rfl⟩;have hb3:Below w3.heap.size w3 W3:=by rw[hW3];exact ke _ _
   have H3:=hid (h3.pure hb3);have HF3:=hid ((HF.out.trans hf3).andPure hb3);have HO3:=hid ((Fr.pure (S:=λ_=>False) hb3).ownsRow (hf3.ownsRow HO.out (λg hg e=>by have:=nJ HO.out hg;have:=HQP.out;have:=HBB.out;omega)) (λ_ _ h=>h));have K3:=hid (show W3.heap[w3.heap.size]?=some (.cells #[.string ⟨x.name.toArray⟩,.bool x.opn] 70 (0,0))from by rw[hW3];exact heap_alloc_new _ _);clear h3 hf3 HCALL hb3
   go_wp2_with fail
   rw[← hW3];refine(aV W3 p s r2.st H3.out.rd).mono ?_;rintro e w4 ⟨rfl,nd,rfl⟩;clear d0 d1 d2 hW3 hql;obtain⟨W4,hW4⟩:∃W4,W4=W3.drewN nd:=⟨_,rfl⟩;have H4:=hid (show RrAt W4 q p s r2 from by rw[hW4];exact H3.out.drewN nd);have HF4:=hid (show Fr (λk=>k=p∨k=q) w W4 from by rw[hW4];exact HF3.out.drewN nd);have HO4:=hid (show OwnAcc W4 B (.slice l0 n0 c9) acc from by rw[hW4];exact HO3.out);have k4:W4.heap[w3.heap.size]?=some (.cells #[.string ⟨x.name.toArray⟩,.bool x.opn] 70 (0,0)):=by rw[hW4];exact K3.out
   have hk4:=lt_of_block k4;have x0:=(cell_of_row _ w3.heap.size 0 _ _ _ k4).trans (show _=some (.string ⟨x.name.toArray⟩)from rfl);have x1:=(cell_of_row _ w3.heap.size 1 _ _ _ k4).trans (show _=some (.bool x.opn)from rfl);rw[← hW4];clear hW4 H3 HF3 HO3 HO k4 K3;by_cases he:r2.st.e=0
   ·have hq1:(r2.st.e == 0)=true:=by simpa using he
    have hq2:(r2.st.e != 0)=false:=by simpa using he
    have HQN:=hid (HQ9.out.trans (nR HXX.out he));have hown:=HO4.out;have HOA:=hid (hown.alloc (.cells #[.string ⟨x.name.toArray⟩,.bool x.opn] 70));have hsz:=HF4.out.size;obtain⟨i0,hi,hz0,hz1,hz2⟩:=info_parts Tryz.infoAcc;have HI:=hid hi;have HZ0:=hid hz0;have HZ1:=hid hz1;have HZ2:=hid hz2;have HH:=HBB.out;clear hi hz0 hz1 hz2 hown he
    go_wp2_with (first
     | (refine wpList_append_lies _ rfl _ _ 23 rfl B 70 i0 _ 2 24 Tryz.underlying23 HI.out HZ0.out HZ1.out HZ2.out rfl (by omega) _ acc.length _ rfl HOA.out ⟨W4.heap.size,0,none⟩ 1 1 [.string ⟨x.name.toArray⟩,.bool x.opn] rfl rfl (aE rfl rfl) (by simp[Value.oneCell']) (by omega) (by unfold maxLen;omega) (by omega) (by simp;omega) (W4.heap.size+1) (by simp) ?_;intro gg cap w8 hown8 hgrow8 hat8 hlt8))
    have HG:=hid (show Fr (λk=>B≤k) W4 w8 from((Fr.refl (λk=>B≤k) W4).alloc _).grown hgrow8 (λk hk e=>nJ HO4.out e))
    go_roundw
    case rel=>
     refine⟨acc++[x],r2,by simp,by simp;omega,hid (nS hown8),hid (H4.out.kept HG.out (by have:=HQP.out;omega) (by have:=HQP.out;omega)),hid (HF4.out.then HG.out (λi hi e=>by omega)),hid ?_⟩;rw[HQN.out,List.length_append,List.length_singleton];congr 1;have:=HFF.out;omega
    case measure=>simp[intOf];omega
   ·have hq1:(r2.st.e == 0)=false:=by simpa using he
    have hq2:(r2.st.e != 0)=true:=by simpa using he
    have HQN:=hid (HQ9.out.trans (nQ HXX.out he));clear he;go_wp2;go_ret;rw[HQN.out];exact⟨⟨_,rfl,SlAt.nil _⟩,H4.out,HF4.out⟩
  ·have hq9:=HQ.out
   rw[show N-acc.length=0 from by omega,mj]at hq9;have HQ9:=hid hq9;clear hq9 HQ;go_wp2;go_ret;rw[HQ9.out];exact⟨⟨_,rfl,SlAt.of_own AccD.cells_len HO.out (λg hg=>nJ HO.out hg)⟩,HA.out,HF.out⟩
theorem Tryz.infoIns:(Tryz.prog.info? 72).map (λi=>(i.zero,i.size,i.bytes))=some (some (.agg #[.string ⟨#[]⟩,.int .i64 0,.bool false]),3,32):=by kernel_rfl
abbrev OwnIns (w:World) (base:Nat) (v:Value) (xs:List InsD):Prop:=w.ownsRow base 72 3 v xs.length (xs.flatMap InsD.cells)
theorem InsD.cells_len (x:InsD):x.cells.length=3:=rfl
theorem nU {w:World}{base:Nat}{v:Value}{xs:List InsD}{x:InsD}(h:w.ownsRow base 72 3 v (xs.length+1) (xs.flatMap InsD.cells++x.cells)):OwnIns w base v (xs++[x]):=by
 show w.ownsRow base _ 3 v (xs++[x]).length ((xs++[x]).flatMap InsD.cells);rw[List.length_append,List.flatMap_append,List.flatMap_cons,List.flatMap_nil,List.append_nil];exact h
set_option maxRecDepth 100000 in
theorem nV (w:World)(q p:Nat)(s:ByteArray)(r:RS)(h:RrAt w q p s r)(hs:s.size≤1048576)(fk:FuncId)(c1:Value)(hent:Enters Tryz.prog fk)(one:RS→InsD×RS)
  (hcall:∀(W:World) (r1:RS),RrAt W q p s r1→Fr (λk=>k=p∨k=q) w W→Calls Tryz.prog fk #[c1] W λe w'=>e = .returned (one r1).1.agg∧RrTo W w' q p s (one r1).2) :
  Calls Tryz.prog 145 #[.pointer (some ⟨q,0,none⟩),.func (.func fk) #[] #[c1]] w λe w'=>(∃sv,e = .returned sv∧InssAt (λg=>w.heap.size≤g) w' sv (r.list s.data.toList one).1)∧RrTo w w' q p s (r.list s.data.toList one).2:=by
 obtain⟨e0,e1,e2⟩:=h.cs;have hqp:=And.intro (lt_of_block h.cell) h.rd.lt;have HQP:=hid hqp;have HC:=hid hcall;have HU:=hid (mV w q p s r h s.size (by omega));have hb:=nO s.data.toList r s.size (by omega);unfold RS.list;rw[nP];obtain⟨⟨n0,r0⟩,hR⟩:∃R,R=r.upTo s.data.toList s.size:=⟨_,rfl⟩;rw[← hR]at HU hb ⊢;dsimp only at HU hb ⊢;obtain⟨N,rfl⟩:∃N:Nat,n0=(N:Int):=⟨n0.toNat,by omega⟩;rw[Int.toNat_natCast];have hN:N≤1048576:=by omega
 obtain⟨R,hRR⟩:∃R,R=mj one N [] r0:=⟨_,rfl⟩;rw[← hRR];have HRR:=hid hRR;have ent:∀(args:Array Value) (w:World),(callFunc fk args).run Tryz.prog w = .ok (.enter fk args) w:=hent;obtain⟨B,hB⟩:∃B,B=w.heap.size:=⟨_,rfl⟩;rw[← hB];have HBB:=hid hB;clear h hcall hR hent hRR hB hqp hb hs
 go_enter Tryz.func145,Tryz.ntmps145
 go_wp2_with fail
 refine HU.out.mono ?_;rintro e w1 ⟨rfl,h1,hf1⟩;have H1:=hid h1;have HF1:=hid hf1;clear h1 hf1 HU e0 e1 e2;go_wp2
 go_loopw [5,15] (λl i wr=>∃(acc:List InsD) (rk:RS),i = .int .i64 acc.length∧acc.length≤N∧Hid (OwnIns wr B l acc)∧Hid (RrAt wr q p s rk)∧Hid (Fr (λk=>k=p∨k=q) w wr)∧Hid (R=mj one (N-acc.length) acc rk)) (λ_ i _=>N-(intOf i).toNat)
 case atStart=>exact⟨[],r0,rfl,by simp,hid (World.ownsRow_nil _ _ _ _),H1,HF1,HRR⟩
 case round=>
  obtain⟨acc,rk,rfl,hk,HO,HA,HF,HQ⟩:=hrel;obtain⟨l0,n0,c9,rfl⟩:=aD HO.out;by_cases hlt:acc.length<N
  ·have HCALL:=hid (HC.out wr rk HA.out HF.out)
   obtain⟨f,hf⟩:∃f,N-acc.length=f+1:=⟨N-acc.length-1,by omega⟩;have hq9:=HQ.out;rw[hf]at hq9;obtain⟨⟨x,r2⟩,hX⟩:∃X,X=one rk:=⟨_,rfl⟩;rw[← hX]at HCALL;dsimp only at HCALL;unfold InsD.agg at HCALL;have HQ9:=hid hq9;have HFF:=hid hf;have HXX:=hid hX.symm;clear hq9 hf hX HQ
   go_wp2_with fail
   refine HCALL.out.mono ?_;rintro e w3 ⟨rfl,h3,hf3⟩;obtain⟨d0,d1,d2⟩:=h3.cs;have hql:=lt_of_block h3.cell;obtain⟨W3,hW3⟩:∃W3,W3=w3.alloc (.cells #[.string ⟨x.name.toArray⟩,.int .i64 x.tick,.bool x.halt] 72):=⟨_,rfl⟩;have hb3:Below w3.heap.size w3 W3:=by rw[hW3];exact ke _ _
   have H3:=hid (h3.pure hb3);have HF3:=hid ((HF.out.trans hf3).andPure hb3);have HO3:=hid ((Fr.pure (S:=λ_=>False) hb3).ownsRow (hf3.ownsRow HO.out (λg hg e=>by have:=nJ HO.out hg;have:=HQP.out;have:=HBB.out;omega)) (λ_ _ h=>h));have K3:=hid (show W3.heap[w3.heap.size]?=some (.cells #[.string ⟨x.name.toArray⟩,.int .i64 x.tick,.bool x.halt] 72 (0,0))from by rw[hW3];exact heap_alloc_new _ _);clear h3 hf3 HCALL hb3
   go_wp2_with fail
   rw[← hW3];refine(aV W3 p s r2.st H3.out.rd).mono ?_;rintro e w4 ⟨rfl,nd,rfl⟩;clear d0 d1 d2 hW3 hql;obtain⟨W4,hW4⟩:∃W4,W4=W3.drewN nd:=⟨_,rfl⟩;have H4:=hid (show RrAt W4 q p s r2 from by rw[hW4];exact H3.out.drewN nd);have HF4:=hid (show Fr (λk=>k=p∨k=q) w W4 from by rw[hW4];exact HF3.out.drewN nd);have HO4:=hid (show OwnIns W4 B (.slice l0 n0 c9) acc from by rw[hW4];exact HO3.out);have k4:W4.heap[w3.heap.size]?=some (.cells #[.string ⟨x.name.toArray⟩,.int .i64 x.tick,.bool x.halt] 72 (0,0)):=by rw[hW4];exact K3.out
   have hk4:=lt_of_block k4;have x0:=(cell_of_row _ w3.heap.size 0 _ _ _ k4).trans (show _=some (.string ⟨x.name.toArray⟩)from rfl);have x1:=(cell_of_row _ w3.heap.size 1 _ _ _ k4).trans (show _=some (.int .i64 x.tick)from rfl);have x2:=(cell_of_row _ w3.heap.size 2 _ _ _ k4).trans (show _=some (.bool x.halt)from rfl);rw[← hW4];clear hW4 H3 HF3 HO3 HO k4 K3;by_cases he:r2.st.e=0
   ·have hq1:(r2.st.e == 0)=true:=by simpa using he
    have hq2:(r2.st.e != 0)=false:=by simpa using he
    have HQN:=hid (HQ9.out.trans (nR HXX.out he));have hown:=HO4.out;have HOA:=hid (hown.alloc (.cells #[.string ⟨x.name.toArray⟩,.int .i64 x.tick,.bool x.halt] 72));have hsz:=HF4.out.size;obtain⟨i0,hi,hz0,hz1,hz2⟩:=info_parts Tryz.infoIns;have HI:=hid hi;have HZ0:=hid hz0;have HZ1:=hid hz1;have HZ2:=hid hz2;have HH:=HBB.out;clear hi hz0 hz1 hz2 hown he
    go_wp2_with (first
     | (refine wpList_append_lies _ rfl _ _ 24 rfl B 72 i0 _ 3 32 Tryz.underlying24 HI.out HZ0.out HZ1.out HZ2.out rfl (by omega) _ acc.length _ rfl HOA.out ⟨W4.heap.size,0,none⟩ 1 1 [.string ⟨x.name.toArray⟩,.int .i64 x.tick,.bool x.halt] rfl rfl (aE rfl rfl) (by simp[Value.oneCell']) (by omega) (by unfold maxLen;omega) (by omega) (by simp;omega) (W4.heap.size+1) (by simp) ?_;intro gg cap w8 hown8 hgrow8 hat8 hlt8))
    have HG:=hid (show Fr (λk=>B≤k) W4 w8 from((Fr.refl (λk=>B≤k) W4).alloc _).grown hgrow8 (λk hk e=>nJ HO4.out e))
    go_roundw
    case rel=>
     refine⟨acc++[x],r2,by simp,by simp;omega,hid (nU hown8),hid (H4.out.kept HG.out (by have:=HQP.out;omega) (by have:=HQP.out;omega)),hid (HF4.out.then HG.out (λi hi e=>by omega)),hid ?_⟩;rw[HQN.out,List.length_append,List.length_singleton];congr 1;have:=HFF.out;omega
    case measure=>simp[intOf];omega
   ·have hq1:(r2.st.e == 0)=false:=by simpa using he
    have hq2:(r2.st.e != 0)=true:=by simpa using he
    have HQN:=hid (HQ9.out.trans (nQ HXX.out he));clear he;go_wp2;go_ret;rw[HQN.out];exact⟨⟨_,rfl,SlAt.nil _⟩,H4.out,HF4.out⟩
  ·have hq9:=HQ.out
   rw[show N-acc.length=0 from by omega,mj]at hq9;have HQ9:=hid hq9;clear hq9 HQ;go_wp2;go_ret;rw[HQ9.out];exact⟨⟨_,rfl,SlAt.of_own InsD.cells_len HO.out (λg hg=>nJ HO.out hg)⟩,HA.out,HF.out⟩
theorem Tryz.infoRow:(Tryz.prog.info? 98).map (λi=>(i.zero,i.size,i.bytes))=some (some (.agg #[.int .i64 0,.int .i64 0,.int .i64 0,.int .i64 0]),4,32):=by kernel_rfl
abbrev OwnRow (w:World) (base:Nat) (v:Value) (xs:List RowD):Prop:=w.ownsRow base 98 4 v xs.length (xs.flatMap RowD.cells)
theorem RowD.cells_len (x:RowD):x.cells.length=4:=rfl
theorem nW {w:World}{base:Nat}{v:Value}{xs:List RowD}{x:RowD}(h:w.ownsRow base 98 4 v (xs.length+1) (xs.flatMap RowD.cells++x.cells)):OwnRow w base v (xs++[x]):=by
 show w.ownsRow base _ 4 v (xs++[x]).length ((xs++[x]).flatMap RowD.cells);rw[List.length_append,List.flatMap_append,List.flatMap_cons,List.flatMap_nil,List.append_nil];exact h
set_option maxRecDepth 100000 in
theorem nX (w:World)(q p:Nat)(s:ByteArray)(r:RS)(h:RrAt w q p s r)(hs:s.size≤1048576)(fk:FuncId)(c1:Value)(hent:Enters Tryz.prog fk)(one:RS→RowD×RS)
  (hcall:∀(W:World) (r1:RS),RrAt W q p s r1→Fr (λk=>k=p∨k=q) w W→Calls Tryz.prog fk #[c1] W λe w'=>e = .returned (one r1).1.agg∧RrTo W w' q p s (one r1).2) :
  Calls Tryz.prog 147 #[.pointer (some ⟨q,0,none⟩),.func (.func fk) #[] #[c1]] w λe w'=>(∃sv,e = .returned sv∧RowsAt (λg=>w.heap.size≤g) w' sv (r.list s.data.toList one).1)∧RrTo w w' q p s (r.list s.data.toList one).2:=by
 obtain⟨e0,e1,e2⟩:=h.cs;have hqp:=And.intro (lt_of_block h.cell) h.rd.lt;have HQP:=hid hqp;have HC:=hid hcall;have HU:=hid (mV w q p s r h s.size (by omega));have hb:=nO s.data.toList r s.size (by omega);unfold RS.list;rw[nP];obtain⟨⟨n0,r0⟩,hR⟩:∃R,R=r.upTo s.data.toList s.size:=⟨_,rfl⟩;rw[← hR]at HU hb ⊢;dsimp only at HU hb ⊢;obtain⟨N,rfl⟩:∃N:Nat,n0=(N:Int):=⟨n0.toNat,by omega⟩;rw[Int.toNat_natCast];have hN:N≤1048576:=by omega
 obtain⟨R,hRR⟩:∃R,R=mj one N [] r0:=⟨_,rfl⟩;rw[← hRR];have HRR:=hid hRR;have ent:∀(args:Array Value) (w:World),(callFunc fk args).run Tryz.prog w = .ok (.enter fk args) w:=hent;obtain⟨B,hB⟩:∃B,B=w.heap.size:=⟨_,rfl⟩;rw[← hB];have HBB:=hid hB;clear h hcall hR hent hRR hB hqp hb hs
 go_enter Tryz.func147,Tryz.ntmps147
 go_wp2_with fail
 refine HU.out.mono ?_;rintro e w1 ⟨rfl,h1,hf1⟩;have H1:=hid h1;have HF1:=hid hf1;clear h1 hf1 HU e0 e1 e2;go_wp2
 go_loopw [5,15] (λl i wr=>∃(acc:List RowD) (rk:RS),i = .int .i64 acc.length∧acc.length≤N∧Hid (OwnRow wr B l acc)∧Hid (RrAt wr q p s rk)∧Hid (Fr (λk=>k=p∨k=q) w wr)∧Hid (R=mj one (N-acc.length) acc rk)) (λ_ i _=>N-(intOf i).toNat)
 case atStart=>exact⟨[],r0,rfl,by simp,hid (World.ownsRow_nil _ _ _ _),H1,HF1,HRR⟩
 case round=>
  obtain⟨acc,rk,rfl,hk,HO,HA,HF,HQ⟩:=hrel;obtain⟨l0,n0,c9,rfl⟩:=aD HO.out;by_cases hlt:acc.length<N
  ·have HCALL:=hid (HC.out wr rk HA.out HF.out)
   obtain⟨f,hf⟩:∃f,N-acc.length=f+1:=⟨N-acc.length-1,by omega⟩;have hq9:=HQ.out;rw[hf]at hq9;obtain⟨⟨x,r2⟩,hX⟩:∃X,X=one rk:=⟨_,rfl⟩;rw[← hX]at HCALL;dsimp only at HCALL;unfold RowD.agg at HCALL;have HQ9:=hid hq9;have HFF:=hid hf;have HXX:=hid hX.symm;clear hq9 hf hX HQ
   go_wp2_with fail
   refine HCALL.out.mono ?_;rintro e w3 ⟨rfl,h3,hf3⟩;obtain⟨d0,d1,d2⟩:=h3.cs;have hql:=lt_of_block h3.cell;obtain⟨W3,hW3⟩:∃W3,W3=w3.alloc (.cells #[.int .i64 x.acct,.int .i64 x.asset,.int .i64 x.free,.int .i64 x.held] 98):=⟨_,rfl⟩;have hb3:Below w3.heap.size w3 W3:=by rw[hW3];exact ke _ _
   have H3:=hid (h3.pure hb3);have HF3:=hid ((HF.out.trans hf3).andPure hb3);have HO3:=hid ((Fr.pure (S:=λ_=>False) hb3).ownsRow (hf3.ownsRow HO.out (λg hg e=>by have:=nJ HO.out hg;have:=HQP.out;have:=HBB.out;omega)) (λ_ _ h=>h));have K3:=hid (show W3.heap[w3.heap.size]?=some (.cells #[.int .i64 x.acct,.int .i64 x.asset,.int .i64 x.free,.int .i64 x.held] 98 (0,0))from by rw[hW3];exact heap_alloc_new _ _);clear h3 hf3 HCALL hb3
   go_wp2_with fail
   rw[← hW3];refine(aV W3 p s r2.st H3.out.rd).mono ?_;rintro e w4 ⟨rfl,nd,rfl⟩;clear d0 d1 d2 hW3 hql;obtain⟨W4,hW4⟩:∃W4,W4=W3.drewN nd:=⟨_,rfl⟩;have H4:=hid (show RrAt W4 q p s r2 from by rw[hW4];exact H3.out.drewN nd);have HF4:=hid (show Fr (λk=>k=p∨k=q) w W4 from by rw[hW4];exact HF3.out.drewN nd);have HO4:=hid (show OwnRow W4 B (.slice l0 n0 c9) acc from by rw[hW4];exact HO3.out);have k4:W4.heap[w3.heap.size]?=some (.cells #[.int .i64 x.acct,.int .i64 x.asset,.int .i64 x.free,.int .i64 x.held] 98 (0,0)):=by rw[hW4];exact K3.out
   have hk4:=lt_of_block k4;obtain⟨x0,x1,x2,x3⟩:=ku k4;rw[← hW4];clear hW4 H3 HF3 HO3 HO k4 K3;by_cases he:r2.st.e=0
   ·have hq1:(r2.st.e == 0)=true:=by simpa using he
    have hq2:(r2.st.e != 0)=false:=by simpa using he
    have HQN:=hid (HQ9.out.trans (nR HXX.out he));have hown:=HO4.out;have HOA:=hid (hown.alloc (.cells #[.int .i64 x.acct,.int .i64 x.asset,.int .i64 x.free,.int .i64 x.held] 98));have hsz:=HF4.out.size;obtain⟨i0,hi,hz0,hz1,hz2⟩:=info_parts Tryz.infoRow;have HI:=hid hi;have HZ0:=hid hz0;have HZ1:=hid hz1;have HZ2:=hid hz2;have HH:=HBB.out;clear hi hz0 hz1 hz2 hown he
    go_wp2_with (first
     | (refine wpList_append_lies _ rfl _ _ 25 rfl B 98 i0 _ 4 32 Tryz.underlying25 HI.out HZ0.out HZ1.out HZ2.out rfl (by omega) _ acc.length _ rfl HOA.out ⟨W4.heap.size,0,none⟩ 1 1 [.int .i64 x.acct,.int .i64 x.asset,.int .i64 x.free,.int .i64 x.held] rfl rfl (aE rfl rfl) (by simp[Value.oneCell']) (by omega) (by unfold maxLen;omega) (by omega) (by simp;omega) (W4.heap.size+1) (by simp) ?_;intro gg cap w8 hown8 hgrow8 hat8 hlt8))
    have HG:=hid (show Fr (λk=>B≤k) W4 w8 from((Fr.refl (λk=>B≤k) W4).alloc _).grown hgrow8 (λk hk e=>nJ HO4.out e))
    go_roundw
    case rel=>
     refine⟨acc++[x],r2,by simp,by simp;omega,hid (nW hown8),hid (H4.out.kept HG.out (by have:=HQP.out;omega) (by have:=HQP.out;omega)),hid (HF4.out.then HG.out (λi hi e=>by omega)),hid ?_⟩;rw[HQN.out,List.length_append,List.length_singleton];congr 1;have:=HFF.out;omega
    case measure=>simp[intOf];omega
   ·have hq1:(r2.st.e == 0)=false:=by simpa using he
    have hq2:(r2.st.e != 0)=true:=by simpa using he
    have HQN:=hid (HQ9.out.trans (nQ HXX.out he));clear he;go_wp2;go_ret;rw[HQN.out];exact⟨⟨_,rfl,SlAt.nil _⟩,H4.out,HF4.out⟩
  ·have hq9:=HQ.out
   rw[show N-acc.length=0 from by omega,mj]at hq9;have HQ9:=hid hq9;clear hq9 HQ;go_wp2;go_ret;rw[HQ9.out];exact⟨⟨_,rfl,SlAt.of_own RowD.cells_len HO.out (λg hg=>nJ HO.out hg)⟩,HA.out,HF.out⟩
theorem Tryz.infoOrd:(Tryz.prog.info? 101).map (λi=>(i.zero,i.size,i.bytes))=some (some (.agg #[.int .i64 0,.int .i64 0,.int .i64 0,.int .u8 0,.int .i64 0,.int .i64 0]),6,48):=by kernel_rfl
abbrev OwnOrd (w:World) (base:Nat) (v:Value) (xs:List OrdD):Prop:=w.ownsRow base 101 6 v xs.length (xs.flatMap OrdD.cells)
theorem OrdD.cells_len (x:OrdD):x.cells.length=6:=rfl
theorem nY {w:World}{base:Nat}{v:Value}{xs:List OrdD}{x:OrdD}(h:w.ownsRow base 101 6 v (xs.length+1) (xs.flatMap OrdD.cells++x.cells)):OwnOrd w base v (xs++[x]):=by
 show w.ownsRow base _ 6 v (xs++[x]).length ((xs++[x]).flatMap OrdD.cells);rw[List.length_append,List.flatMap_append,List.flatMap_cons,List.flatMap_nil,List.append_nil];exact h
set_option maxRecDepth 100000 in
theorem nZ (w:World)(q p:Nat)(s:ByteArray)(r:RS)(h:RrAt w q p s r)(hs:s.size≤1048576)(fk:FuncId)(c1:Value)(hent:Enters Tryz.prog fk)(one:RS→OrdD×RS)
  (hcall:∀(W:World) (r1:RS),RrAt W q p s r1→Fr (λk=>k=p∨k=q) w W→Calls Tryz.prog fk #[c1] W λe w'=>e = .returned (one r1).1.agg∧RrTo W w' q p s (one r1).2) :
  Calls Tryz.prog 151 #[.pointer (some ⟨q,0,none⟩),.func (.func fk) #[] #[c1]] w λe w'=>(∃sv,e = .returned sv∧OrdsAt (λg=>w.heap.size≤g) w' sv (r.list s.data.toList one).1)∧RrTo w w' q p s (r.list s.data.toList one).2:=by
 obtain⟨e0,e1,e2⟩:=h.cs;have hqp:=And.intro (lt_of_block h.cell) h.rd.lt;have HQP:=hid hqp;have HC:=hid hcall;have HU:=hid (mV w q p s r h s.size (by omega));have hb:=nO s.data.toList r s.size (by omega);unfold RS.list;rw[nP];obtain⟨⟨n0,r0⟩,hR⟩:∃R,R=r.upTo s.data.toList s.size:=⟨_,rfl⟩;rw[← hR]at HU hb ⊢;dsimp only at HU hb ⊢;obtain⟨N,rfl⟩:∃N:Nat,n0=(N:Int):=⟨n0.toNat,by omega⟩;rw[Int.toNat_natCast];have hN:N≤1048576:=by omega
 obtain⟨R,hRR⟩:∃R,R=mj one N [] r0:=⟨_,rfl⟩;rw[← hRR];have HRR:=hid hRR;have ent:∀(args:Array Value) (w:World),(callFunc fk args).run Tryz.prog w = .ok (.enter fk args) w:=hent;obtain⟨B,hB⟩:∃B,B=w.heap.size:=⟨_,rfl⟩;rw[← hB];have HBB:=hid hB;clear h hcall hR hent hRR hB hqp hb hs
 go_enter Tryz.func151,Tryz.ntmps151
 go_wp2_with fail
 refine HU.out.mono ?_;rintro e w1 ⟨rfl,h1,hf1⟩;have H1:=hid h1;have HF1:=hid hf1;clear h1 hf1 HU e0 e1 e2;go_wp2
 go_loopw [5,15] (λl i wr=>∃(acc:List OrdD) (rk:RS),i = .int .i64 acc.length∧acc.length≤N∧Hid (OwnOrd wr B l acc)∧Hid (RrAt wr q p s rk)∧Hid (Fr (λk=>k=p∨k=q) w wr)∧Hid (R=mj one (N-acc.length) acc rk)) (λ_ i _=>N-(intOf i).toNat)
 case atStart=>exact⟨[],r0,rfl,by simp,hid (World.ownsRow_nil _ _ _ _),H1,HF1,HRR⟩
 case round=>
  obtain⟨acc,rk,rfl,hk,HO,HA,HF,HQ⟩:=hrel;obtain⟨l0,n0,c9,rfl⟩:=aD HO.out;by_cases hlt:acc.length<N
  ·have HCALL:=hid (HC.out wr rk HA.out HF.out)
   obtain⟨f,hf⟩:∃f,N-acc.length=f+1:=⟨N-acc.length-1,by omega⟩;have hq9:=HQ.out;rw[hf]at hq9;obtain⟨⟨x,r2⟩,hX⟩:∃X,X=one rk:=⟨_,rfl⟩;rw[← hX]at HCALL;dsimp only at HCALL;unfold OrdD.agg at HCALL;have HQ9:=hid hq9;have HFF:=hid hf;have HXX:=hid hX.symm;clear hq9 hf hX HQ
   go_wp2_with fail
   refine HCALL.out.mono ?_;rintro e w3 ⟨rfl,h3,hf3⟩;obtain⟨d0,d1,d2⟩:=h3.cs;have hql:=lt_of_block h3.cell;obtain⟨W3,hW3⟩:∃W3,W3=w3.alloc (.cells #[.int .i64 x.id,.int .i64 x.acct,.int .i64 x.inst,.int .u8 x.side,.int .i64 x.price,.int .i64 x.left] 101):=⟨_,rfl⟩;have hb3:Below w3.heap.size w3 W3:=by rw[hW3];exact ke _ _
   have H3:=hid (h3.pure hb3);have HF3:=hid ((HF.out.trans hf3).andPure hb3);have HO3:=hid ((Fr.pure (S:=λ_=>False) hb3).ownsRow (hf3.ownsRow HO.out (λg hg e=>by have:=nJ HO.out hg;have:=HQP.out;have:=HBB.out;omega)) (λ_ _ h=>h));have K3:=hid (show W3.heap[w3.heap.size]?=some (.cells #[.int .i64 x.id,.int .i64 x.acct,.int .i64 x.inst,.int .u8 x.side,.int .i64 x.price,.int .i64 x.left] 101 (0,0))from by rw[hW3];exact heap_alloc_new _ _);clear h3 hf3 HCALL hb3
   go_wp2_with fail
   rw[← hW3];refine(aV W3 p s r2.st H3.out.rd).mono ?_;rintro e w4 ⟨rfl,nd,rfl⟩;clear d0 d1 d2 hW3 hql;obtain⟨W4,hW4⟩:∃W4,W4=W3.drewN nd:=⟨_,rfl⟩;have H4:=hid (show RrAt W4 q p s r2 from by rw[hW4];exact H3.out.drewN nd);have HF4:=hid (show Fr (λk=>k=p∨k=q) w W4 from by rw[hW4];exact HF3.out.drewN nd);have HO4:=hid (show OwnOrd W4 B (.slice l0 n0 c9) acc from by rw[hW4];exact HO3.out);have k4:W4.heap[w3.heap.size]?=some (.cells #[.int .i64 x.id,.int .i64 x.acct,.int .i64 x.inst,.int .u8 x.side,.int .i64 x.price,.int .i64 x.left] 101 (0,0)):=by rw[hW4];exact K3.out
   have hk4:=lt_of_block k4;have x0:=(cell_of_row _ w3.heap.size 0 _ _ _ k4).trans (show _=some (.int .i64 x.id)from rfl);have x1:=(cell_of_row _ w3.heap.size 1 _ _ _ k4).trans (show _=some (.int .i64 x.acct)from rfl);have x2:=(cell_of_row _ w3.heap.size 2 _ _ _ k4).trans (show _=some (.int .i64 x.inst)from rfl);have x3:=(cell_of_row _ w3.heap.size 3 _ _ _ k4).trans (show _=some (.int .u8 x.side)from rfl);have x4:=(cell_of_row _ w3.heap.size 4 _ _ _ k4).trans (show _=some (.int .i64 x.price)from rfl);have x5:=(cell_of_row _ w3.heap.size 5 _ _ _ k4).trans (show _=some (.int .i64 x.left)from rfl);rw[← hW4];clear hW4 H3 HF3 HO3 HO k4 K3;by_cases he:r2.st.e=0
   ·have hq1:(r2.st.e == 0)=true:=by simpa using he
    have hq2:(r2.st.e != 0)=false:=by simpa using he
    have HQN:=hid (HQ9.out.trans (nR HXX.out he));have hown:=HO4.out;have HOA:=hid (hown.alloc (.cells #[.int .i64 x.id,.int .i64 x.acct,.int .i64 x.inst,.int .u8 x.side,.int .i64 x.price,.int .i64 x.left] 101));have hsz:=HF4.out.size;obtain⟨i0,hi,hz0,hz1,hz2⟩:=info_parts Tryz.infoOrd;have HI:=hid hi;have HZ0:=hid hz0;have HZ1:=hid hz1;have HZ2:=hid hz2;have HH:=HBB.out;clear hi hz0 hz1 hz2 hown he
    go_wp2_with (first
     | (refine wpList_append_lies _ rfl _ _ 26 rfl B 101 i0 _ 6 48 Tryz.underlying26 HI.out HZ0.out HZ1.out HZ2.out rfl (by omega) _ acc.length _ rfl HOA.out ⟨W4.heap.size,0,none⟩ 1 1 [.int .i64 x.id,.int .i64 x.acct,.int .i64 x.inst,.int .u8 x.side,.int .i64 x.price,.int .i64 x.left] rfl rfl (aE rfl rfl) (by simp[Value.oneCell']) (by omega) (by unfold maxLen;omega) (by omega) (by simp;omega) (W4.heap.size+1) (by simp) ?_;intro gg cap w8 hown8 hgrow8 hat8 hlt8))
    have HG:=hid (show Fr (λk=>B≤k) W4 w8 from((Fr.refl (λk=>B≤k) W4).alloc _).grown hgrow8 (λk hk e=>nJ HO4.out e))
    go_roundw
    case rel=>
     refine⟨acc++[x],r2,by simp,by simp;omega,hid (nY hown8),hid (H4.out.kept HG.out (by have:=HQP.out;omega) (by have:=HQP.out;omega)),hid (HF4.out.then HG.out (λi hi e=>by omega)),hid ?_⟩;rw[HQN.out,List.length_append,List.length_singleton];congr 1;have:=HFF.out;omega
    case measure=>simp[intOf];omega
   ·have hq1:(r2.st.e == 0)=false:=by simpa using he
    have hq2:(r2.st.e != 0)=true:=by simpa using he
    have HQN:=hid (HQ9.out.trans (nQ HXX.out he));clear he;go_wp2;go_ret;rw[HQN.out];exact⟨⟨_,rfl,SlAt.nil _⟩,H4.out,HF4.out⟩
  ·have hq9:=HQ.out
   rw[show N-acc.length=0 from by omega,mj]at hq9;have HQ9:=hid hq9;clear hq9 HQ;go_wp2;go_ret;rw[HQ9.out];exact⟨⟨_,rfl,SlAt.of_own OrdD.cells_len HO.out (λg hg=>nJ HO.out hg)⟩,HA.out,HF.out⟩
theorem Tryz.infoBid:(Tryz.prog.info? 150).map (λi=>(i.zero,i.size,i.bytes))=some (some (.agg #[.int .i64 0,.int .i64 0]),2,16):=by kernel_rfl
abbrev OwnBid (w:World) (base:Nat) (v:Value) (xs:List BidD):Prop:=w.ownsRow base 150 2 v xs.length (xs.flatMap BidD.cells)
theorem BidD.cells_len (x:BidD):x.cells.length=2:=rfl
theorem n8 {w:World}{base:Nat}{v:Value}{xs:List BidD}{x:BidD}(h:w.ownsRow base 150 2 v (xs.length+1) (xs.flatMap BidD.cells++x.cells)):OwnBid w base v (xs++[x]):=by
 show w.ownsRow base _ 2 v (xs++[x]).length ((xs++[x]).flatMap BidD.cells);rw[List.length_append,List.flatMap_append,List.flatMap_cons,List.flatMap_nil,List.append_nil];exact h
set_option maxRecDepth 100000 in
theorem n9 (w:World)(q p:Nat)(s:ByteArray)(r:RS)(h:RrAt w q p s r)(hs:s.size≤1048576)(fk:FuncId)(c1:Value)(hent:Enters Tryz.prog fk)(one:RS→BidD×RS)
  (hcall:∀(W:World) (r1:RS),RrAt W q p s r1→Fr (λk=>k=p∨k=q) w W→Calls Tryz.prog fk #[c1] W λe w'=>e = .returned (one r1).1.agg∧RrTo W w' q p s (one r1).2) :
  Calls Tryz.prog 156 #[.pointer (some ⟨q,0,none⟩),.func (.func fk) #[] #[c1]] w λe w'=>(∃sv,e = .returned sv∧BidsAt (λg=>w.heap.size≤g) w' sv (r.list s.data.toList one).1)∧RrTo w w' q p s (r.list s.data.toList one).2:=by
 obtain⟨e0,e1,e2⟩:=h.cs;have hqp:=And.intro (lt_of_block h.cell) h.rd.lt;have HQP:=hid hqp;have HC:=hid hcall;have HU:=hid (mV w q p s r h s.size (by omega));have hb:=nO s.data.toList r s.size (by omega);unfold RS.list;rw[nP];obtain⟨⟨n0,r0⟩,hR⟩:∃R,R=r.upTo s.data.toList s.size:=⟨_,rfl⟩;rw[← hR]at HU hb ⊢;dsimp only at HU hb ⊢;obtain⟨N,rfl⟩:∃N:Nat,n0=(N:Int):=⟨n0.toNat,by omega⟩;rw[Int.toNat_natCast];have hN:N≤1048576:=by omega
 obtain⟨R,hRR⟩:∃R,R=mj one N [] r0:=⟨_,rfl⟩;rw[← hRR];have HRR:=hid hRR;have ent:∀(args:Array Value) (w:World),(callFunc fk args).run Tryz.prog w = .ok (.enter fk args) w:=hent;obtain⟨B,hB⟩:∃B,B=w.heap.size:=⟨_,rfl⟩;rw[← hB];have HBB:=hid hB;clear h hcall hR hent hRR hB hqp hb hs
 go_enter Tryz.func156,Tryz.ntmps156
 go_wp2_with fail
 refine HU.out.mono ?_;rintro e w1 ⟨rfl,h1,hf1⟩;have H1:=hid h1;have HF1:=hid hf1;clear h1 hf1 HU e0 e1 e2;go_wp2
 go_loopw [5,15] (λl i wr=>∃(acc:List BidD) (rk:RS),i = .int .i64 acc.length∧acc.length≤N∧Hid (OwnBid wr B l acc)∧Hid (RrAt wr q p s rk)∧Hid (Fr (λk=>k=p∨k=q) w wr)∧Hid (R=mj one (N-acc.length) acc rk)) (λ_ i _=>N-(intOf i).toNat)
 case atStart=>exact⟨[],r0,rfl,by simp,hid (World.ownsRow_nil _ _ _ _),H1,HF1,HRR⟩
 case round=>
  obtain⟨acc,rk,rfl,hk,HO,HA,HF,HQ⟩:=hrel;obtain⟨l0,n0,c9,rfl⟩:=aD HO.out;by_cases hlt:acc.length<N
  ·have HCALL:=hid (HC.out wr rk HA.out HF.out)
   obtain⟨f,hf⟩:∃f,N-acc.length=f+1:=⟨N-acc.length-1,by omega⟩;have hq9:=HQ.out;rw[hf]at hq9;obtain⟨⟨x,r2⟩,hX⟩:∃X,X=one rk:=⟨_,rfl⟩;rw[← hX]at HCALL;dsimp only at HCALL;unfold BidD.agg at HCALL;have HQ9:=hid hq9;have HFF:=hid hf;have HXX:=hid hX.symm;clear hq9 hf hX HQ
   go_wp2_with fail
   refine HCALL.out.mono ?_;rintro e w3 ⟨rfl,h3,hf3⟩;obtain⟨d0,d1,d2⟩:=h3.cs;have hql:=lt_of_block h3.cell;obtain⟨W3,hW3⟩:∃W3,W3=w3.alloc (.cells #[.int .i64 x.acct,.int .i64 x.amount] 150):=⟨_,rfl⟩;have hb3:Below w3.heap.size w3 W3:=by rw[hW3];exact ke _ _
   have H3:=hid (h3.pure hb3);have HF3:=hid ((HF.out.trans hf3).andPure hb3);have HO3:=hid ((Fr.pure (S:=λ_=>False) hb3).ownsRow (hf3.ownsRow HO.out (λg hg e=>by have:=nJ HO.out hg;have:=HQP.out;have:=HBB.out;omega)) (λ_ _ h=>h));have K3:=hid (show W3.heap[w3.heap.size]?=some (.cells #[.int .i64 x.acct,.int .i64 x.amount] 150 (0,0))from by rw[hW3];exact heap_alloc_new _ _);clear h3 hf3 HCALL hb3
   go_wp2_with fail
   rw[← hW3];refine(aV W3 p s r2.st H3.out.rd).mono ?_;rintro e w4 ⟨rfl,nd,rfl⟩;clear d0 d1 d2 hW3 hql;obtain⟨W4,hW4⟩:∃W4,W4=W3.drewN nd:=⟨_,rfl⟩;have H4:=hid (show RrAt W4 q p s r2 from by rw[hW4];exact H3.out.drewN nd);have HF4:=hid (show Fr (λk=>k=p∨k=q) w W4 from by rw[hW4];exact HF3.out.drewN nd);have HO4:=hid (show OwnBid W4 B (.slice l0 n0 c9) acc from by rw[hW4];exact HO3.out);have k4:W4.heap[w3.heap.size]?=some (.cells #[.int .i64 x.acct,.int .i64 x.amount] 150 (0,0)):=by rw[hW4];exact K3.out
   have hk4:=lt_of_block k4;have x0:=(cell_of_row _ w3.heap.size 0 _ _ _ k4).trans (show _=some (.int .i64 x.acct)from rfl);have x1:=(cell_of_row _ w3.heap.size 1 _ _ _ k4).trans (show _=some (.int .i64 x.amount)from rfl);rw[← hW4];clear hW4 H3 HF3 HO3 HO k4 K3;by_cases he:r2.st.e=0
   ·have hq1:(r2.st.e == 0)=true:=by simpa using he
    have hq2:(r2.st.e != 0)=false:=by simpa using he
    have HQN:=hid (HQ9.out.trans (nR HXX.out he));have hown:=HO4.out;have HOA:=hid (hown.alloc (.cells #[.int .i64 x.acct,.int .i64 x.amount] 150));have hsz:=HF4.out.size;obtain⟨i0,hi,hz0,hz1,hz2⟩:=info_parts Tryz.infoBid;have HI:=hid hi;have HZ0:=hid hz0;have HZ1:=hid hz1;have HZ2:=hid hz2;have HH:=HBB.out;clear hi hz0 hz1 hz2 hown he
    go_wp2_with (first
     | (refine wpList_append_lies _ rfl _ _ 66 rfl B 150 i0 _ 2 16 Tryz.underlying66 HI.out HZ0.out HZ1.out HZ2.out rfl (by omega) _ acc.length _ rfl HOA.out ⟨W4.heap.size,0,none⟩ 1 1 [.int .i64 x.acct,.int .i64 x.amount] rfl rfl (aE rfl rfl) (by simp[Value.oneCell']) (by omega) (by unfold maxLen;omega) (by omega) (by simp;omega) (W4.heap.size+1) (by simp) ?_;intro gg cap w8 hown8 hgrow8 hat8 hlt8))
    have HG:=hid (show Fr (λk=>B≤k) W4 w8 from((Fr.refl (λk=>B≤k) W4).alloc _).grown hgrow8 (λk hk e=>nJ HO4.out e))
    go_roundw
    case rel=>
     refine⟨acc++[x],r2,by simp,by simp;omega,hid (n8 hown8),hid (H4.out.kept HG.out (by have:=HQP.out;omega) (by have:=HQP.out;omega)),hid (HF4.out.then HG.out (λi hi e=>by omega)),hid ?_⟩;rw[HQN.out,List.length_append,List.length_singleton];congr 1;have:=HFF.out;omega
    case measure=>simp[intOf];omega
   ·have hq1:(r2.st.e == 0)=false:=by simpa using he
    have hq2:(r2.st.e != 0)=true:=by simpa using he
    have HQN:=hid (HQ9.out.trans (nQ HXX.out he));clear he;go_wp2;go_ret;rw[HQN.out];exact⟨⟨_,rfl,SlAt.nil _⟩,H4.out,HF4.out⟩
  ·have hq9:=HQ.out
   rw[show N-acc.length=0 from by omega,mj]at hq9;have HQ9:=hid hq9;clear hq9 HQ;go_wp2;go_ret;rw[HQ9.out];exact⟨⟨_,rfl,SlAt.of_own BidD.cells_len HO.out (λg hg=>nJ HO.out hg)⟩,HA.out,HF.out⟩
theorem Tryz.infoOpn:(Tryz.prog.info? 106).map (λi=>(i.zero,i.size,i.bytes))=some (some (.agg #[.int .i64 0,.int .i64 0,.int .i64 0,.int .u8 0,.int .i64 0,.int .i64 0]),6,48):=by kernel_rfl
abbrev OwnOpn (w:World) (base:Nat) (v:Value) (xs:List OpnD):Prop:=w.ownsRow base 106 6 v xs.length (xs.flatMap OpnD.cells)
theorem OpnD.cells_len (x:OpnD):x.cells.length=6:=rfl
theorem oa {w:World}{base:Nat}{v:Value}{xs:List OpnD}{x:OpnD}(h:w.ownsRow base 106 6 v (xs.length+1) (xs.flatMap OpnD.cells++x.cells)):OwnOpn w base v (xs++[x]):=by
 show w.ownsRow base _ 6 v (xs++[x]).length ((xs++[x]).flatMap OpnD.cells);rw[List.length_append,List.flatMap_append,List.flatMap_cons,List.flatMap_nil,List.append_nil];exact h
set_option maxRecDepth 100000 in
theorem ob (w:World)(q p:Nat)(s:ByteArray)(r:RS)(h:RrAt w q p s r)(hs:s.size≤1048576)(fk:FuncId)(c1:Value)(hent:Enters Tryz.prog fk)(one:RS→OpnD×RS)
  (hcall:∀(W:World) (r1:RS),RrAt W q p s r1→Fr (λk=>k=p∨k=q) w W→Calls Tryz.prog fk #[c1] W λe w'=>e = .returned (one r1).1.agg∧RrTo W w' q p s (one r1).2) :
  Calls Tryz.prog 158 #[.pointer (some ⟨q,0,none⟩),.func (.func fk) #[] #[c1]] w λe w'=>(∃sv,e = .returned sv∧OpnsAt (λg=>w.heap.size≤g) w' sv (r.list s.data.toList one).1)∧RrTo w w' q p s (r.list s.data.toList one).2:=by
 obtain⟨e0,e1,e2⟩:=h.cs;have hqp:=And.intro (lt_of_block h.cell) h.rd.lt;have HQP:=hid hqp;have HC:=hid hcall;have HU:=hid (mV w q p s r h s.size (by omega));have hb:=nO s.data.toList r s.size (by omega);unfold RS.list;rw[nP];obtain⟨⟨n0,r0⟩,hR⟩:∃R,R=r.upTo s.data.toList s.size:=⟨_,rfl⟩;rw[← hR]at HU hb ⊢;dsimp only at HU hb ⊢;obtain⟨N,rfl⟩:∃N:Nat,n0=(N:Int):=⟨n0.toNat,by omega⟩;rw[Int.toNat_natCast];have hN:N≤1048576:=by omega
 obtain⟨R,hRR⟩:∃R,R=mj one N [] r0:=⟨_,rfl⟩;rw[← hRR];have HRR:=hid hRR;have ent:∀(args:Array Value) (w:World),(callFunc fk args).run Tryz.prog w = .ok (.enter fk args) w:=hent;obtain⟨B,hB⟩:∃B,B=w.heap.size:=⟨_,rfl⟩;rw[← hB];have HBB:=hid hB;clear h hcall hR hent hRR hB hqp hb hs
 go_enter Tryz.func158,Tryz.ntmps158
 go_wp2_with fail
 refine HU.out.mono ?_;rintro e w1 ⟨rfl,h1,hf1⟩;have H1:=hid h1;have HF1:=hid hf1;clear h1 hf1 HU e0 e1 e2;go_wp2
 go_loopw [5,15] (λl i wr=>∃(acc:List OpnD) (rk:RS),i = .int .i64 acc.length∧acc.length≤N∧Hid (OwnOpn wr B l acc)∧Hid (RrAt wr q p s rk)∧Hid (Fr (λk=>k=p∨k=q) w wr)∧Hid (R=mj one (N-acc.length) acc rk)) (λ_ i _=>N-(intOf i).toNat)
 case atStart=>exact⟨[],r0,rfl,by simp,hid (World.ownsRow_nil _ _ _ _),H1,HF1,HRR⟩
 case round=>
  obtain⟨acc,rk,rfl,hk,HO,HA,HF,HQ⟩:=hrel;obtain⟨l0,n0,c9,rfl⟩:=aD HO.out;by_cases hlt:acc.length<N
  ·have HCALL:=hid (HC.out wr rk HA.out HF.out)
   obtain⟨f,hf⟩:∃f,N-acc.length=f+1:=⟨N-acc.length-1,by omega⟩;have hq9:=HQ.out;rw[hf]at hq9;obtain⟨⟨x,r2⟩,hX⟩:∃X,X=one rk:=⟨_,rfl⟩;rw[← hX]at HCALL;dsimp only at HCALL;unfold OpnD.agg at HCALL;have HQ9:=hid hq9;have HFF:=hid hf;have HXX:=hid hX.symm;clear hq9 hf hX HQ
   go_wp2_with fail
   refine HCALL.out.mono ?_;rintro e w3 ⟨rfl,h3,hf3⟩;obtain⟨d0,d1,d2⟩:=h3.cs;have hql:=lt_of_block h3.cell;obtain⟨W3,hW3⟩:∃W3,W3=w3.alloc (.cells #[.int .i64 x.acct,.int .i64 x.id,.int .i64 x.inst,.int .u8 x.side,.int .i64 x.price,.int .i64 x.left] 106):=⟨_,rfl⟩;have hb3:Below w3.heap.size w3 W3:=by rw[hW3];exact ke _ _
   have H3:=hid (h3.pure hb3);have HF3:=hid ((HF.out.trans hf3).andPure hb3);have HO3:=hid ((Fr.pure (S:=λ_=>False) hb3).ownsRow (hf3.ownsRow HO.out (λg hg e=>by have:=nJ HO.out hg;have:=HQP.out;have:=HBB.out;omega)) (λ_ _ h=>h));have K3:=hid (show W3.heap[w3.heap.size]?=some (.cells #[.int .i64 x.acct,.int .i64 x.id,.int .i64 x.inst,.int .u8 x.side,.int .i64 x.price,.int .i64 x.left] 106 (0,0))from by rw[hW3];exact heap_alloc_new _ _);clear h3 hf3 HCALL hb3
   go_wp2_with fail
   rw[← hW3];refine(aV W3 p s r2.st H3.out.rd).mono ?_;rintro e w4 ⟨rfl,nd,rfl⟩;clear d0 d1 d2 hW3 hql;obtain⟨W4,hW4⟩:∃W4,W4=W3.drewN nd:=⟨_,rfl⟩;have H4:=hid (show RrAt W4 q p s r2 from by rw[hW4];exact H3.out.drewN nd);have HF4:=hid (show Fr (λk=>k=p∨k=q) w W4 from by rw[hW4];exact HF3.out.drewN nd);have HO4:=hid (show OwnOpn W4 B (.slice l0 n0 c9) acc from by rw[hW4];exact HO3.out);have k4:W4.heap[w3.heap.size]?=some (.cells #[.int .i64 x.acct,.int .i64 x.id,.int .i64 x.inst,.int .u8 x.side,.int .i64 x.price,.int .i64 x.left] 106 (0,0)):=by rw[hW4];exact K3.out
   have hk4:=lt_of_block k4;have x0:=(cell_of_row _ w3.heap.size 0 _ _ _ k4).trans (show _=some (.int .i64 x.acct)from rfl);have x1:=(cell_of_row _ w3.heap.size 1 _ _ _ k4).trans (show _=some (.int .i64 x.id)from rfl);have x2:=(cell_of_row _ w3.heap.size 2 _ _ _ k4).trans (show _=some (.int .i64 x.inst)from rfl);have x3:=(cell_of_row _ w3.heap.size 3 _ _ _ k4).trans (show _=some (.int .u8 x.side)from rfl);have x4:=(cell_of_row _ w3.heap.size 4 _ _ _ k4).trans (show _=some (.int .i64 x.price)from rfl);have x5:=(cell_of_row _ w3.heap.size 5 _ _ _ k4).trans (show _=some (.int .i64 x.left)from rfl);rw[← hW4];clear hW4 H3 HF3 HO3 HO k4 K3;by_cases he:r2.st.e=0
   ·have hq1:(r2.st.e == 0)=true:=by simpa using he
    have hq2:(r2.st.e != 0)=false:=by simpa using he
    have HQN:=hid (HQ9.out.trans (nR HXX.out he));have hown:=HO4.out;have HOA:=hid (hown.alloc (.cells #[.int .i64 x.acct,.int .i64 x.id,.int .i64 x.inst,.int .u8 x.side,.int .i64 x.price,.int .i64 x.left] 106));have hsz:=HF4.out.size;obtain⟨i0,hi,hz0,hz1,hz2⟩:=info_parts Tryz.infoOpn;have HI:=hid hi;have HZ0:=hid hz0;have HZ1:=hid hz1;have HZ2:=hid hz2;have HH:=HBB.out;clear hi hz0 hz1 hz2 hown he
    go_wp2_with (first
     | (refine wpList_append_lies _ rfl _ _ 30 rfl B 106 i0 _ 6 48 Tryz.underlying30 HI.out HZ0.out HZ1.out HZ2.out rfl (by omega) _ acc.length _ rfl HOA.out ⟨W4.heap.size,0,none⟩ 1 1 [.int .i64 x.acct,.int .i64 x.id,.int .i64 x.inst,.int .u8 x.side,.int .i64 x.price,.int .i64 x.left] rfl rfl (aE rfl rfl) (by simp[Value.oneCell']) (by omega) (by unfold maxLen;omega) (by omega) (by simp;omega) (W4.heap.size+1) (by simp) ?_;intro gg cap w8 hown8 hgrow8 hat8 hlt8))
    have HG:=hid (show Fr (λk=>B≤k) W4 w8 from((Fr.refl (λk=>B≤k) W4).alloc _).grown hgrow8 (λk hk e=>nJ HO4.out e))
    go_roundw
    case rel=>
     refine⟨acc++[x],r2,by simp,by simp;omega,hid (oa hown8),hid (H4.out.kept HG.out (by have:=HQP.out;omega) (by have:=HQP.out;omega)),hid (HF4.out.then HG.out (λi hi e=>by omega)),hid ?_⟩;rw[HQN.out,List.length_append,List.length_singleton];congr 1;have:=HFF.out;omega
    case measure=>simp[intOf];omega
   ·have hq1:(r2.st.e == 0)=false:=by simpa using he
    have hq2:(r2.st.e != 0)=true:=by simpa using he
    have HQN:=hid (HQ9.out.trans (nQ HXX.out he));clear he;go_wp2;go_ret;rw[HQN.out];exact⟨⟨_,rfl,SlAt.nil _⟩,H4.out,HF4.out⟩
  ·have hq9:=HQ.out
   rw[show N-acc.length=0 from by omega,mj]at hq9;have HQ9:=hid hq9;clear hq9 HQ;go_wp2;go_ret;rw[HQ9.out];exact⟨⟨_,rfl,SlAt.of_own OpnD.cells_len HO.out (λg hg=>nJ HO.out hg)⟩,HA.out,HF.out⟩
theorem Tryz.infoLot:(Tryz.prog.info? 109).map (λi=>(i.zero,i.size,i.bytes))=some (some (.agg #[.int .i64 0,.int .i64 0,.int .i64 0,.int .i64 0]),4,32):=by kernel_rfl
abbrev OwnLot (w:World) (base:Nat) (v:Value) (xs:List LotD):Prop:=w.ownsRow base 109 4 v xs.length (xs.flatMap LotD.cells)
theorem LotD.cells_len (x:LotD):x.cells.length=4:=rfl
theorem oc {w:World}{base:Nat}{v:Value}{xs:List LotD}{x:LotD}(h:w.ownsRow base 109 4 v (xs.length+1) (xs.flatMap LotD.cells++x.cells)):OwnLot w base v (xs++[x]):=by
 show w.ownsRow base _ 4 v (xs++[x]).length ((xs++[x]).flatMap LotD.cells);rw[List.length_append,List.flatMap_append,List.flatMap_cons,List.flatMap_nil,List.append_nil];exact h
set_option maxRecDepth 100000 in
theorem od (w:World)(q p:Nat)(s:ByteArray)(r:RS)(h:RrAt w q p s r)(hs:s.size≤1048576)(fk:FuncId)(c1:Value)(hent:Enters Tryz.prog fk)(one:RS→LotD×RS)
  (hcall:∀(W:World) (r1:RS),RrAt W q p s r1→Fr (λk=>k=p∨k=q) w W→Calls Tryz.prog fk #[c1] W λe w'=>e = .returned (one r1).1.agg∧RrTo W w' q p s (one r1).2) :
  Calls Tryz.prog 160 #[.pointer (some ⟨q,0,none⟩),.func (.func fk) #[] #[c1]] w λe w'=>(∃sv,e = .returned sv∧LotsAt (λg=>w.heap.size≤g) w' sv (r.list s.data.toList one).1)∧RrTo w w' q p s (r.list s.data.toList one).2:=by
 obtain⟨e0,e1,e2⟩:=h.cs;have hqp:=And.intro (lt_of_block h.cell) h.rd.lt;have HQP:=hid hqp;have HC:=hid hcall;have HU:=hid (mV w q p s r h s.size (by omega));have hb:=nO s.data.toList r s.size (by omega);unfold RS.list;rw[nP];obtain⟨⟨n0,r0⟩,hR⟩:∃R,R=r.upTo s.data.toList s.size:=⟨_,rfl⟩;rw[← hR]at HU hb ⊢;dsimp only at HU hb ⊢;obtain⟨N,rfl⟩:∃N:Nat,n0=(N:Int):=⟨n0.toNat,by omega⟩;rw[Int.toNat_natCast];have hN:N≤1048576:=by omega
 obtain⟨R,hRR⟩:∃R,R=mj one N [] r0:=⟨_,rfl⟩;rw[← hRR];have HRR:=hid hRR;have ent:∀(args:Array Value) (w:World),(callFunc fk args).run Tryz.prog w = .ok (.enter fk args) w:=hent;obtain⟨B,hB⟩:∃B,B=w.heap.size:=⟨_,rfl⟩;rw[← hB];have HBB:=hid hB;clear h hcall hR hent hRR hB hqp hb hs
 go_enter Tryz.func160,Tryz.ntmps160
 go_wp2_with fail
 refine HU.out.mono ?_;rintro e w1 ⟨rfl,h1,hf1⟩;have H1:=hid h1;have HF1:=hid hf1;clear h1 hf1 HU e0 e1 e2;go_wp2
 go_loopw [5,15] (λl i wr=>∃(acc:List LotD) (rk:RS),i = .int .i64 acc.length∧acc.length≤N∧Hid (OwnLot wr B l acc)∧Hid (RrAt wr q p s rk)∧Hid (Fr (λk=>k=p∨k=q) w wr)∧Hid (R=mj one (N-acc.length) acc rk)) (λ_ i _=>N-(intOf i).toNat)
 case atStart=>exact⟨[],r0,rfl,by simp,hid (World.ownsRow_nil _ _ _ _),H1,HF1,HRR⟩
 case round=>
  obtain⟨acc,rk,rfl,hk,HO,HA,HF,HQ⟩:=hrel;obtain⟨l0,n0,c9,rfl⟩:=aD HO.out;by_cases hlt:acc.length<N
  ·have HCALL:=hid (HC.out wr rk HA.out HF.out)
   obtain⟨f,hf⟩:∃f,N-acc.length=f+1:=⟨N-acc.length-1,by omega⟩;have hq9:=HQ.out;rw[hf]at hq9;obtain⟨⟨x,r2⟩,hX⟩:∃X,X=one rk:=⟨_,rfl⟩;rw[← hX]at HCALL;dsimp only at HCALL;unfold LotD.agg at HCALL;have HQ9:=hid hq9;have HFF:=hid hf;have HXX:=hid hX.symm;clear hq9 hf hX HQ
   go_wp2_with fail
   refine HCALL.out.mono ?_;rintro e w3 ⟨rfl,h3,hf3⟩;obtain⟨d0,d1,d2⟩:=h3.cs;have hql:=lt_of_block h3.cell;obtain⟨W3,hW3⟩:∃W3,W3=w3.alloc (.cells #[.int .i64 x.id,.int .i64 x.seller,.int .i64 x.inst,.int .i64 x.qty] 109):=⟨_,rfl⟩;have hb3:Below w3.heap.size w3 W3:=by rw[hW3];exact ke _ _
   have H3:=hid (h3.pure hb3);have HF3:=hid ((HF.out.trans hf3).andPure hb3);have HO3:=hid ((Fr.pure (S:=λ_=>False) hb3).ownsRow (hf3.ownsRow HO.out (λg hg e=>by have:=nJ HO.out hg;have:=HQP.out;have:=HBB.out;omega)) (λ_ _ h=>h));have K3:=hid (show W3.heap[w3.heap.size]?=some (.cells #[.int .i64 x.id,.int .i64 x.seller,.int .i64 x.inst,.int .i64 x.qty] 109 (0,0))from by rw[hW3];exact heap_alloc_new _ _);clear h3 hf3 HCALL hb3
   go_wp2_with fail
   rw[← hW3];refine(aV W3 p s r2.st H3.out.rd).mono ?_;rintro e w4 ⟨rfl,nd,rfl⟩;clear d0 d1 d2 hW3 hql;obtain⟨W4,hW4⟩:∃W4,W4=W3.drewN nd:=⟨_,rfl⟩;have H4:=hid (show RrAt W4 q p s r2 from by rw[hW4];exact H3.out.drewN nd);have HF4:=hid (show Fr (λk=>k=p∨k=q) w W4 from by rw[hW4];exact HF3.out.drewN nd);have HO4:=hid (show OwnLot W4 B (.slice l0 n0 c9) acc from by rw[hW4];exact HO3.out);have k4:W4.heap[w3.heap.size]?=some (.cells #[.int .i64 x.id,.int .i64 x.seller,.int .i64 x.inst,.int .i64 x.qty] 109 (0,0)):=by rw[hW4];exact K3.out
   have hk4:=lt_of_block k4;obtain⟨x0,x1,x2,x3⟩:=ku k4;rw[← hW4];clear hW4 H3 HF3 HO3 HO k4 K3;by_cases he:r2.st.e=0
   ·have hq1:(r2.st.e == 0)=true:=by simpa using he
    have hq2:(r2.st.e != 0)=false:=by simpa using he
    have HQN:=hid (HQ9.out.trans (nR HXX.out he));have hown:=HO4.out;have HOA:=hid (hown.alloc (.cells #[.int .i64 x.id,.int .i64 x.seller,.int .i64 x.inst,.int .i64 x.qty] 109));have hsz:=HF4.out.size;obtain⟨i0,hi,hz0,hz1,hz2⟩:=info_parts Tryz.infoLot;have HI:=hid hi;have HZ0:=hid hz0;have HZ1:=hid hz1;have HZ2:=hid hz2;have HH:=HBB.out;clear hi hz0 hz1 hz2 hown he
    go_wp2_with (first
     | (refine wpList_append_lies _ rfl _ _ 31 rfl B 109 i0 _ 4 32 Tryz.underlying31 HI.out HZ0.out HZ1.out HZ2.out rfl (by omega) _ acc.length _ rfl HOA.out ⟨W4.heap.size,0,none⟩ 1 1 [.int .i64 x.id,.int .i64 x.seller,.int .i64 x.inst,.int .i64 x.qty] rfl rfl (aE rfl rfl) (by simp[Value.oneCell']) (by omega) (by unfold maxLen;omega) (by omega) (by simp;omega) (W4.heap.size+1) (by simp) ?_;intro gg cap w8 hown8 hgrow8 hat8 hlt8))
    have HG:=hid (show Fr (λk=>B≤k) W4 w8 from((Fr.refl (λk=>B≤k) W4).alloc _).grown hgrow8 (λk hk e=>nJ HO4.out e))
    go_roundw
    case rel=>
     refine⟨acc++[x],r2,by simp,by simp;omega,hid (oc hown8),hid (H4.out.kept HG.out (by have:=HQP.out;omega) (by have:=HQP.out;omega)),hid (HF4.out.then HG.out (λi hi e=>by omega)),hid ?_⟩;rw[HQN.out,List.length_append,List.length_singleton];congr 1;have:=HFF.out;omega
    case measure=>simp[intOf];omega
   ·have hq1:(r2.st.e == 0)=false:=by simpa using he
    have hq2:(r2.st.e != 0)=true:=by simpa using he
    have HQN:=hid (HQ9.out.trans (nQ HXX.out he));clear he;go_wp2;go_ret;rw[HQN.out];exact⟨⟨_,rfl,SlAt.nil _⟩,H4.out,HF4.out⟩
  ·have hq9:=HQ.out
   rw[show N-acc.length=0 from by omega,mj]at hq9;have HQ9:=hid hq9;clear hq9 HQ;go_wp2;go_ret;rw[HQ9.out];exact⟨⟨_,rfl,SlAt.of_own LotD.cells_len HO.out (λg hg=>nJ HO.out hg)⟩,HA.out,HF.out⟩
theorem Tryz.infoPos:(Tryz.prog.info? 112).map (λi=>(i.zero,i.size,i.bytes))=some (some (.agg #[.int .i64 0,.int .i64 0,.int .i64 0,.int .i64 0,.int .i64 0,.int .i64 0]),6,48):=by kernel_rfl
abbrev OwnPos (w:World) (base:Nat) (v:Value) (xs:List PosD):Prop:=w.ownsRow base 112 6 v xs.length (xs.flatMap PosD.cells)
theorem PosD.cells_len (x:PosD):x.cells.length=6:=rfl
theorem oe {w:World}{base:Nat}{v:Value}{xs:List PosD}{x:PosD}(h:w.ownsRow base 112 6 v (xs.length+1) (xs.flatMap PosD.cells++x.cells)):OwnPos w base v (xs++[x]):=by
 show w.ownsRow base _ 6 v (xs++[x]).length ((xs++[x]).flatMap PosD.cells);rw[List.length_append,List.flatMap_append,List.flatMap_cons,List.flatMap_nil,List.append_nil];exact h
set_option maxRecDepth 100000 in
theorem og (w:World)(q p:Nat)(s:ByteArray)(r:RS)(h:RrAt w q p s r)(hs:s.size≤1048576)(fk:FuncId)(c1:Value)(hent:Enters Tryz.prog fk)(one:RS→PosD×RS)
  (hcall:∀(W:World) (r1:RS),RrAt W q p s r1→Fr (λk=>k=p∨k=q) w W→Calls Tryz.prog fk #[c1] W λe w'=>e = .returned (one r1).1.agg∧RrTo W w' q p s (one r1).2) :
  Calls Tryz.prog 162 #[.pointer (some ⟨q,0,none⟩),.func (.func fk) #[] #[c1]] w λe w'=>(∃sv,e = .returned sv∧PossAt (λg=>w.heap.size≤g) w' sv (r.list s.data.toList one).1)∧RrTo w w' q p s (r.list s.data.toList one).2:=by
 obtain⟨e0,e1,e2⟩:=h.cs;have hqp:=And.intro (lt_of_block h.cell) h.rd.lt;have HQP:=hid hqp;have HC:=hid hcall;have HU:=hid (mV w q p s r h s.size (by omega));have hb:=nO s.data.toList r s.size (by omega);unfold RS.list;rw[nP];obtain⟨⟨n0,r0⟩,hR⟩:∃R,R=r.upTo s.data.toList s.size:=⟨_,rfl⟩;rw[← hR]at HU hb ⊢;dsimp only at HU hb ⊢;obtain⟨N,rfl⟩:∃N:Nat,n0=(N:Int):=⟨n0.toNat,by omega⟩;rw[Int.toNat_natCast];have hN:N≤1048576:=by omega
 obtain⟨R,hRR⟩:∃R,R=mj one N [] r0:=⟨_,rfl⟩;rw[← hRR];have HRR:=hid hRR;have ent:∀(args:Array Value) (w:World),(callFunc fk args).run Tryz.prog w = .ok (.enter fk args) w:=hent;obtain⟨B,hB⟩:∃B,B=w.heap.size:=⟨_,rfl⟩;rw[← hB];have HBB:=hid hB;clear h hcall hR hent hRR hB hqp hb hs
 go_enter Tryz.func162,Tryz.ntmps162
 go_wp2_with fail
 refine HU.out.mono ?_;rintro e w1 ⟨rfl,h1,hf1⟩;have H1:=hid h1;have HF1:=hid hf1;clear h1 hf1 HU e0 e1 e2;go_wp2
 go_loopw [5,15] (λl i wr=>∃(acc:List PosD) (rk:RS),i = .int .i64 acc.length∧acc.length≤N∧Hid (OwnPos wr B l acc)∧Hid (RrAt wr q p s rk)∧Hid (Fr (λk=>k=p∨k=q) w wr)∧Hid (R=mj one (N-acc.length) acc rk)) (λ_ i _=>N-(intOf i).toNat)
 case atStart=>exact⟨[],r0,rfl,by simp,hid (World.ownsRow_nil _ _ _ _),H1,HF1,HRR⟩
 case round=>
  obtain⟨acc,rk,rfl,hk,HO,HA,HF,HQ⟩:=hrel;obtain⟨l0,n0,c9,rfl⟩:=aD HO.out;by_cases hlt:acc.length<N
  ·have HCALL:=hid (HC.out wr rk HA.out HF.out)
   obtain⟨f,hf⟩:∃f,N-acc.length=f+1:=⟨N-acc.length-1,by omega⟩;have hq9:=HQ.out;rw[hf]at hq9;obtain⟨⟨x,r2⟩,hX⟩:∃X,X=one rk:=⟨_,rfl⟩;rw[← hX]at HCALL;dsimp only at HCALL;unfold PosD.agg at HCALL;have HQ9:=hid hq9;have HFF:=hid hf;have HXX:=hid hX.symm;clear hq9 hf hX HQ
   go_wp2_with fail
   refine HCALL.out.mono ?_;rintro e w3 ⟨rfl,h3,hf3⟩;obtain⟨d0,d1,d2⟩:=h3.cs;have hql:=lt_of_block h3.cell;obtain⟨W3,hW3⟩:∃W3,W3=w3.alloc (.cells #[.int .i64 x.acct,.int .i64 x.inst,.int .i64 x.bought,.int .i64 x.sold,.int .i64 x.spent,.int .i64 x.got] 112):=⟨_,rfl⟩;have hb3:Below w3.heap.size w3 W3:=by rw[hW3];exact ke _ _
   have H3:=hid (h3.pure hb3);have HF3:=hid ((HF.out.trans hf3).andPure hb3);have HO3:=hid ((Fr.pure (S:=λ_=>False) hb3).ownsRow (hf3.ownsRow HO.out (λg hg e=>by have:=nJ HO.out hg;have:=HQP.out;have:=HBB.out;omega)) (λ_ _ h=>h));have K3:=hid (show W3.heap[w3.heap.size]?=some (.cells #[.int .i64 x.acct,.int .i64 x.inst,.int .i64 x.bought,.int .i64 x.sold,.int .i64 x.spent,.int .i64 x.got] 112 (0,0))from by rw[hW3];exact heap_alloc_new _ _);clear h3 hf3 HCALL hb3
   go_wp2_with fail
   rw[← hW3];refine(aV W3 p s r2.st H3.out.rd).mono ?_;rintro e w4 ⟨rfl,nd,rfl⟩;clear d0 d1 d2 hW3 hql;obtain⟨W4,hW4⟩:∃W4,W4=W3.drewN nd:=⟨_,rfl⟩;have H4:=hid (show RrAt W4 q p s r2 from by rw[hW4];exact H3.out.drewN nd);have HF4:=hid (show Fr (λk=>k=p∨k=q) w W4 from by rw[hW4];exact HF3.out.drewN nd);have HO4:=hid (show OwnPos W4 B (.slice l0 n0 c9) acc from by rw[hW4];exact HO3.out);have k4:W4.heap[w3.heap.size]?=some (.cells #[.int .i64 x.acct,.int .i64 x.inst,.int .i64 x.bought,.int .i64 x.sold,.int .i64 x.spent,.int .i64 x.got] 112 (0,0)):=by rw[hW4];exact K3.out
   have hk4:=lt_of_block k4;have x0:=(cell_of_row _ w3.heap.size 0 _ _ _ k4).trans (show _=some (.int .i64 x.acct)from rfl);have x1:=(cell_of_row _ w3.heap.size 1 _ _ _ k4).trans (show _=some (.int .i64 x.inst)from rfl);have x2:=(cell_of_row _ w3.heap.size 2 _ _ _ k4).trans (show _=some (.int .i64 x.bought)from rfl);have x3:=(cell_of_row _ w3.heap.size 3 _ _ _ k4).trans (show _=some (.int .i64 x.sold)from rfl);have x4:=(cell_of_row _ w3.heap.size 4 _ _ _ k4).trans (show _=some (.int .i64 x.spent)from rfl);have x5:=(cell_of_row _ w3.heap.size 5 _ _ _ k4).trans (show _=some (.int .i64 x.got)from rfl);rw[← hW4];clear hW4 H3 HF3 HO3 HO k4 K3;by_cases he:r2.st.e=0
   ·have hq1:(r2.st.e == 0)=true:=by simpa using he
    have hq2:(r2.st.e != 0)=false:=by simpa using he
    have HQN:=hid (HQ9.out.trans (nR HXX.out he));have hown:=HO4.out;have HOA:=hid (hown.alloc (.cells #[.int .i64 x.acct,.int .i64 x.inst,.int .i64 x.bought,.int .i64 x.sold,.int .i64 x.spent,.int .i64 x.got] 112));have hsz:=HF4.out.size;obtain⟨i0,hi,hz0,hz1,hz2⟩:=info_parts Tryz.infoPos;have HI:=hid hi;have HZ0:=hid hz0;have HZ1:=hid hz1;have HZ2:=hid hz2;have HH:=HBB.out;clear hi hz0 hz1 hz2 hown he
    go_wp2_with (first
     | (refine wpList_append_lies _ rfl _ _ 32 rfl B 112 i0 _ 6 48 Tryz.underlying32 HI.out HZ0.out HZ1.out HZ2.out rfl (by omega) _ acc.length _ rfl HOA.out ⟨W4.heap.size,0,none⟩ 1 1 [.int .i64 x.acct,.int .i64 x.inst,.int .i64 x.bought,.int .i64 x.sold,.int .i64 x.spent,.int .i64 x.got] rfl rfl (aE rfl rfl) (by simp[Value.oneCell']) (by omega) (by unfold maxLen;omega) (by omega) (by simp;omega) (W4.heap.size+1) (by simp) ?_;intro gg cap w8 hown8 hgrow8 hat8 hlt8))
    have HG:=hid (show Fr (λk=>B≤k) W4 w8 from((Fr.refl (λk=>B≤k) W4).alloc _).grown hgrow8 (λk hk e=>nJ HO4.out e))
    go_roundw
    case rel=>
     refine⟨acc++[x],r2,by simp,by simp;omega,hid (oe hown8),hid (H4.out.kept HG.out (by have:=HQP.out;omega) (by have:=HQP.out;omega)),hid (HF4.out.then HG.out (λi hi e=>by omega)),hid ?_⟩;rw[HQN.out,List.length_append,List.length_singleton];congr 1;have:=HFF.out;omega
    case measure=>simp[intOf];omega
   ·have hq1:(r2.st.e == 0)=false:=by simpa using he
    have hq2:(r2.st.e != 0)=true:=by simpa using he
    have HQN:=hid (HQ9.out.trans (nQ HXX.out he));clear he;go_wp2;go_ret;rw[HQN.out];exact⟨⟨_,rfl,SlAt.nil _⟩,H4.out,HF4.out⟩
  ·have hq9:=HQ.out
   rw[show N-acc.length=0 from by omega,mj]at hq9;have HQ9:=hid hq9;clear hq9 HQ;go_wp2;go_ret;rw[HQ9.out];exact⟨⟨_,rfl,SlAt.of_own PosD.cells_len HO.out (λg hg=>nJ HO.out hg)⟩,HA.out,HF.out⟩
theorem Tryz.infoLin:(Tryz.prog.info? 115).map (λi=>(i.zero,i.size,i.bytes))=some (some (.agg #[.int .i64 0,.int .i64 0,.int .u8 0,.int .i64 0,.int .i64 0]),5,40):=by kernel_rfl
abbrev OwnLin (w:World) (base:Nat) (v:Value) (xs:List LinD):Prop:=w.ownsRow base 115 5 v xs.length (xs.flatMap LinD.cells)
theorem LinD.cells_len (x:LinD):x.cells.length=5:=rfl
theorem oh {w:World}{base:Nat}{v:Value}{xs:List LinD}{x:LinD}(h:w.ownsRow base 115 5 v (xs.length+1) (xs.flatMap LinD.cells++x.cells)):OwnLin w base v (xs++[x]):=by
 show w.ownsRow base _ 5 v (xs++[x]).length ((xs++[x]).flatMap LinD.cells);rw[List.length_append,List.flatMap_append,List.flatMap_cons,List.flatMap_nil,List.append_nil];exact h
set_option maxRecDepth 100000 in
theorem oj (w:World)(q p:Nat)(s:ByteArray)(r:RS)(h:RrAt w q p s r)(hs:s.size≤1048576)(fk:FuncId)(c1:Value)(hent:Enters Tryz.prog fk)(one:RS→LinD×RS)
  (hcall:∀(W:World) (r1:RS),RrAt W q p s r1→Fr (λk=>k=p∨k=q) w W→Calls Tryz.prog fk #[c1] W λe w'=>e = .returned (one r1).1.agg∧RrTo W w' q p s (one r1).2) :
  Calls Tryz.prog 164 #[.pointer (some ⟨q,0,none⟩),.func (.func fk) #[] #[c1]] w λe w'=>(∃sv,e = .returned sv∧LinsAt (λg=>w.heap.size≤g) w' sv (r.list s.data.toList one).1)∧RrTo w w' q p s (r.list s.data.toList one).2:=by
 obtain⟨e0,e1,e2⟩:=h.cs;have hqp:=And.intro (lt_of_block h.cell) h.rd.lt;have HQP:=hid hqp;have HC:=hid hcall;have HU:=hid (mV w q p s r h s.size (by omega));have hb:=nO s.data.toList r s.size (by omega);unfold RS.list;rw[nP];obtain⟨⟨n0,r0⟩,hR⟩:∃R,R=r.upTo s.data.toList s.size:=⟨_,rfl⟩;rw[← hR]at HU hb ⊢;dsimp only at HU hb ⊢;obtain⟨N,rfl⟩:∃N:Nat,n0=(N:Int):=⟨n0.toNat,by omega⟩;rw[Int.toNat_natCast];have hN:N≤1048576:=by omega
 obtain⟨R,hRR⟩:∃R,R=mj one N [] r0:=⟨_,rfl⟩;rw[← hRR];have HRR:=hid hRR;have ent:∀(args:Array Value) (w:World),(callFunc fk args).run Tryz.prog w = .ok (.enter fk args) w:=hent;obtain⟨B,hB⟩:∃B,B=w.heap.size:=⟨_,rfl⟩;rw[← hB];have HBB:=hid hB;clear h hcall hR hent hRR hB hqp hb hs
 go_enter Tryz.func164,Tryz.ntmps164
 go_wp2_with fail
 refine HU.out.mono ?_;rintro e w1 ⟨rfl,h1,hf1⟩;have H1:=hid h1;have HF1:=hid hf1;clear h1 hf1 HU e0 e1 e2;go_wp2
 go_loopw [5,15] (λl i wr=>∃(acc:List LinD) (rk:RS),i = .int .i64 acc.length∧acc.length≤N∧Hid (OwnLin wr B l acc)∧Hid (RrAt wr q p s rk)∧Hid (Fr (λk=>k=p∨k=q) w wr)∧Hid (R=mj one (N-acc.length) acc rk)) (λ_ i _=>N-(intOf i).toNat)
 case atStart=>exact⟨[],r0,rfl,by simp,hid (World.ownsRow_nil _ _ _ _),H1,HF1,HRR⟩
 case round=>
  obtain⟨acc,rk,rfl,hk,HO,HA,HF,HQ⟩:=hrel;obtain⟨l0,n0,c9,rfl⟩:=aD HO.out;by_cases hlt:acc.length<N
  ·have HCALL:=hid (HC.out wr rk HA.out HF.out)
   obtain⟨f,hf⟩:∃f,N-acc.length=f+1:=⟨N-acc.length-1,by omega⟩;have hq9:=HQ.out;rw[hf]at hq9;obtain⟨⟨x,r2⟩,hX⟩:∃X,X=one rk:=⟨_,rfl⟩;rw[← hX]at HCALL;dsimp only at HCALL;unfold LinD.agg at HCALL;have HQ9:=hid hq9;have HFF:=hid hf;have HXX:=hid hX.symm;clear hq9 hf hX HQ
   go_wp2_with fail
   refine HCALL.out.mono ?_;rintro e w3 ⟨rfl,h3,hf3⟩;obtain⟨d0,d1,d2⟩:=h3.cs;have hql:=lt_of_block h3.cell;obtain⟨W3,hW3⟩:∃W3,W3=w3.alloc (.cells #[.int .i64 x.acct,.int .i64 x.seq,.int .u8 x.kind,.int .i64 x.delta,.int .i64 x.balance] 115):=⟨_,rfl⟩;have hb3:Below w3.heap.size w3 W3:=by rw[hW3];exact ke _ _
   have H3:=hid (h3.pure hb3);have HF3:=hid ((HF.out.trans hf3).andPure hb3);have HO3:=hid ((Fr.pure (S:=λ_=>False) hb3).ownsRow (hf3.ownsRow HO.out (λg hg e=>by have:=nJ HO.out hg;have:=HQP.out;have:=HBB.out;omega)) (λ_ _ h=>h));have K3:=hid (show W3.heap[w3.heap.size]?=some (.cells #[.int .i64 x.acct,.int .i64 x.seq,.int .u8 x.kind,.int .i64 x.delta,.int .i64 x.balance] 115 (0,0))from by rw[hW3];exact heap_alloc_new _ _);clear h3 hf3 HCALL hb3
   go_wp2_with fail
   rw[← hW3];refine(aV W3 p s r2.st H3.out.rd).mono ?_;rintro e w4 ⟨rfl,nd,rfl⟩;clear d0 d1 d2 hW3 hql;obtain⟨W4,hW4⟩:∃W4,W4=W3.drewN nd:=⟨_,rfl⟩;have H4:=hid (show RrAt W4 q p s r2 from by rw[hW4];exact H3.out.drewN nd);have HF4:=hid (show Fr (λk=>k=p∨k=q) w W4 from by rw[hW4];exact HF3.out.drewN nd);have HO4:=hid (show OwnLin W4 B (.slice l0 n0 c9) acc from by rw[hW4];exact HO3.out);have k4:W4.heap[w3.heap.size]?=some (.cells #[.int .i64 x.acct,.int .i64 x.seq,.int .u8 x.kind,.int .i64 x.delta,.int .i64 x.balance] 115 (0,0)):=by rw[hW4];exact K3.out
   have hk4:=lt_of_block k4;have x0:=(cell_of_row _ w3.heap.size 0 _ _ _ k4).trans (show _=some (.int .i64 x.acct)from rfl);have x1:=(cell_of_row _ w3.heap.size 1 _ _ _ k4).trans (show _=some (.int .i64 x.seq)from rfl);have x2:=(cell_of_row _ w3.heap.size 2 _ _ _ k4).trans (show _=some (.int .u8 x.kind)from rfl);have x3:=(cell_of_row _ w3.heap.size 3 _ _ _ k4).trans (show _=some (.int .i64 x.delta)from rfl);have x4:=(cell_of_row _ w3.heap.size 4 _ _ _ k4).trans (show _=some (.int .i64 x.balance)from rfl);rw[← hW4];clear hW4 H3 HF3 HO3 HO k4 K3;by_cases he:r2.st.e=0
   ·have hq1:(r2.st.e == 0)=true:=by simpa using he
    have hq2:(r2.st.e != 0)=false:=by simpa using he
    have HQN:=hid (HQ9.out.trans (nR HXX.out he));have hown:=HO4.out;have HOA:=hid (hown.alloc (.cells #[.int .i64 x.acct,.int .i64 x.seq,.int .u8 x.kind,.int .i64 x.delta,.int .i64 x.balance] 115));have hsz:=HF4.out.size;obtain⟨i0,hi,hz0,hz1,hz2⟩:=info_parts Tryz.infoLin;have HI:=hid hi;have HZ0:=hid hz0;have HZ1:=hid hz1;have HZ2:=hid hz2;have HH:=HBB.out;clear hi hz0 hz1 hz2 hown he
    go_wp2_with (first
     | (refine wpList_append_lies _ rfl _ _ 33 rfl B 115 i0 _ 5 40 Tryz.underlying33 HI.out HZ0.out HZ1.out HZ2.out rfl (by omega) _ acc.length _ rfl HOA.out ⟨W4.heap.size,0,none⟩ 1 1 [.int .i64 x.acct,.int .i64 x.seq,.int .u8 x.kind,.int .i64 x.delta,.int .i64 x.balance] rfl rfl (aE rfl rfl) (by simp[Value.oneCell']) (by omega) (by unfold maxLen;omega) (by omega) (by simp;omega) (W4.heap.size+1) (by simp) ?_;intro gg cap w8 hown8 hgrow8 hat8 hlt8))
    have HG:=hid (show Fr (λk=>B≤k) W4 w8 from((Fr.refl (λk=>B≤k) W4).alloc _).grown hgrow8 (λk hk e=>nJ HO4.out e))
    go_roundw
    case rel=>
     refine⟨acc++[x],r2,by simp,by simp;omega,hid (oh hown8),hid (H4.out.kept HG.out (by have:=HQP.out;omega) (by have:=HQP.out;omega)),hid (HF4.out.then HG.out (λi hi e=>by omega)),hid ?_⟩;rw[HQN.out,List.length_append,List.length_singleton];congr 1;have:=HFF.out;omega
    case measure=>simp[intOf];omega
   ·have hq1:(r2.st.e == 0)=false:=by simpa using he
    have hq2:(r2.st.e != 0)=true:=by simpa using he
    have HQN:=hid (HQ9.out.trans (nQ HXX.out he));clear he;go_wp2;go_ret;rw[HQN.out];exact⟨⟨_,rfl,SlAt.nil _⟩,H4.out,HF4.out⟩
  ·have hq9:=HQ.out
   rw[show N-acc.length=0 from by omega,mj]at hq9;have HQ9:=hid hq9;clear hq9 HQ;go_wp2;go_ret;rw[HQ9.out];exact⟨⟨_,rfl,SlAt.of_own LinD.cells_len HO.out (λg hg=>nJ HO.out hg)⟩,HA.out,HF.out⟩
theorem Tryz.infoAuc:(Tryz.prog.info? 68).map (λi=>(i.zero,i.size,i.bytes))=some (some (.agg #[.int .i64 0,.int .i64 0,.int .i64 0,.bool false,.int .i64 0,.int .i64 0,.int .i64 0,.int .i64 0,.slice none 0 0]),9,88):=by kernel_rfl
abbrev OwnAuc (w:World) (base:Nat) (v:Value) (xs:List (AucD×Value)):Prop:=w.ownsRow base 68 9 v xs.length (xs.flatMap AucD.cells)
theorem AucD.cells_len (x:AucD×Value):(AucD.cells x).length=9:=rfl
theorem ol {w:World}{base:Nat}{v:Value}{xs:List (AucD×Value)}{x:AucD×Value}(h:w.ownsRow base 68 9 v (xs.length+1) (xs.flatMap AucD.cells++AucD.cells x)):OwnAuc w base v (xs++[x]):=by
 show w.ownsRow base _ 9 v (xs++[x]).length ((xs++[x]).flatMap AucD.cells);rw[List.length_append,List.flatMap_append,List.flatMap_cons,List.flatMap_nil,List.append_nil];exact h
set_option maxRecDepth 100000 in
theorem om (w:World)(q p:Nat)(s:ByteArray)(r:RS)(h:RrAt w q p s r)(hs:s.size≤1048576)(fk:FuncId)(c1:Value)(hent:Enters Tryz.prog fk)(one:RS→AucD×RS)
  (hcall:∀(W:World) (r1:RS),RrAt W q p s r1→Fr (λk=>k=p∨k=q) w W→Calls Tryz.prog fk #[c1] W λe w'=>(∃bv,e = .returned ((one r1).1.agg bv)∧BidsAt (λg=>W.heap.size≤g) w' bv (one r1).1.bids)∧RrTo W w' q p s (one r1).2) :
  Calls Tryz.prog 154 #[.pointer (some ⟨q,0,none⟩),.func (.func fk) #[] #[c1]] w λe w'=>(∃sv,e = .returned sv∧AucsAt (λg=>w.heap.size≤g) w' sv (r.list s.data.toList one).1)∧RrTo w w' q p s (r.list s.data.toList one).2:=by
 obtain⟨e0,e1,e2⟩:=h.cs;have hqp:=And.intro (lt_of_block h.cell) h.rd.lt;have HQP:=hid hqp;have HC:=hid hcall;have HU:=hid (mV w q p s r h s.size (by omega));have hb:=nO s.data.toList r s.size (by omega);unfold RS.list;rw[nP];obtain⟨⟨n0,r0⟩,hR⟩:∃R,R=r.upTo s.data.toList s.size:=⟨_,rfl⟩;rw[← hR]at HU hb ⊢;dsimp only at HU hb ⊢;obtain⟨N,rfl⟩:∃N:Nat,n0=(N:Int):=⟨n0.toNat,by omega⟩;rw[Int.toNat_natCast];have hN:N≤1048576:=by omega
 obtain⟨R,hRR⟩:∃R,R=mj one N [] r0:=⟨_,rfl⟩;rw[← hRR];have HRR:=hid hRR;have ent:∀(args:Array Value) (w:World),(callFunc fk args).run Tryz.prog w = .ok (.enter fk args) w:=hent;obtain⟨B,hB⟩:∃B,B=w.heap.size:=⟨_,rfl⟩;rw[← hB];have HBB:=hid hB;clear h hcall hR hent hRR hB hqp hb hs
 go_enter Tryz.func154,Tryz.ntmps154
 go_wp2_with fail
 refine HU.out.mono ?_;rintro e w1 ⟨rfl,h1,hf1⟩;have H1:=hid h1;have HF1:=hid hf1;clear h1 hf1 HU e0 e1 e2;go_wp2
 go_loopw [5,15] (λl i wr=>∃(acc:List (AucD×Value)) (rk:RS),i = .int .i64 acc.length∧acc.length≤N∧Hid (OwnAuc wr B l acc)∧Hid (RrAt wr q p s rk)∧Hid (Fr (λk=>k=p∨k=q) w wr)∧Hid (R=mj one (N-acc.length) (acc.map (·.1)) rk)∧Hid (∀m∈acc,BidsAt (λg=>(B≤g∧l.ownBlock≠some g)∧g<wr.heap.size) wr m.2 m.1.bids)) (λ_ i _=>N-(intOf i).toNat)
 case atStart=>exact⟨[],r0,rfl,by simp,hid (World.ownsRow_nil _ _ _ _),H1,HF1,HRR,hid (λm hm=>by cases hm)⟩
 case round=>
  obtain⟨acc,rk,rfl,hk,HO,HA,HF,HQ,HM⟩:=hrel;obtain⟨l0,n0,c9,rfl⟩:=aD HO.out;by_cases hlt:acc.length<N
  ·have HCALL:=hid (HC.out wr rk HA.out HF.out)
   obtain⟨f,hf⟩:∃f,N-acc.length=f+1:=⟨N-acc.length-1,by omega⟩;have hq9:=HQ.out;rw[hf]at hq9;obtain⟨⟨x,r2⟩,hX⟩:∃X,X=one rk:=⟨_,rfl⟩;rw[← hX]at HCALL;dsimp only at HCALL;unfold AucD.agg at HCALL;have HQ9:=hid hq9;have HFF:=hid hf;have HXX:=hid hX.symm;clear hq9 hf hX HQ
   go_wp2_with fail
   refine HCALL.out.mono ?_;rintro e w3 ⟨⟨bv,rfl,hbv⟩,h3,hf3⟩;obtain⟨ba,bc,rfl⟩:=hbv.shape;obtain⟨d0,d1,d2⟩:=h3.cs;have hql:=lt_of_block h3.cell;obtain⟨W3,hW3⟩:∃W3,W3=w3.alloc (.cells #[.int .i64 x.id,.int .i64 x.seller,.int .i64 x.inst,.bool x.sealed,.int .i64 x.qty,.int .i64 x.reserve,.int .i64 x.step,.int .i64 x.fin,.slice ba x.bids.length bc] 68):=⟨_,rfl⟩;have hb3:Below w3.heap.size w3 W3:=by rw[hW3];exact ke _ _
   have H3:=hid (h3.pure hb3);have HF3:=hid ((HF.out.trans hf3).andPure hb3);have K3:=hid (show W3.heap[w3.heap.size]?=some (.cells #[.int .i64 x.id,.int .i64 x.seller,.int .i64 x.inst,.bool x.sealed,.int .i64 x.qty,.int .i64 x.reserve,.int .i64 x.step,.int .i64 x.fin,.slice ba x.bids.length bc] 68 (0,0))from by rw[hW3];exact heap_alloc_new _ _);have HLO:=hid (show ∀g,(Value.slice l0 n0 c9).ownBlock=some g→B≤g∧g<wr.heap.size from λg hg=>⟨nJ HO.out hg,by
    rcases HO.out.2 with⟨e,_⟩|⟨g2,cap2,cur2,e,_,hh,_⟩
    ·rw[e]at hg;cases hg
    ·rw[e]at hg;cases hg;exact lt_of_block hh⟩)
   have HO3:=hid ((Fr.pure (S:=λ_=>False) hb3).ownsRow (hf3.ownsRow HO.out (λg hg e=>by have:=nJ HO.out hg;have:=HQP.out;have:=HBB.out;omega)) (λ_ _ h=>h));have HM3:=hid (show ∀m∈acc++[(x,Value.slice ba x.bids.length bc)],BidsAt (λg=>(B≤g∧(Value.slice l0 n0 c9).ownBlock≠some g)∧g<W3.heap.size) W3 m.2 m.1.bids from λm hm=>by
    rcases List.mem_append.1 hm with hm|hm
    ·exact(((HM.out m hm).kept hf3 (λg hg e=>by have:=HQP.out;have:=HBB.out;omega)).pure hb3).mono (λg hg=>⟨hg.1,by have:=hf3.size;have:=hb3.size;omega⟩)
    ·rw[List.mem_singleton]at hm
     subst hm;exact((hbv.lt (λx=>⟨_,rfl⟩)).pure hb3).mono (λg hg=>⟨⟨by have:=HF.out.size;have:=HBB.out;omega,λe=>by have:=(HLO.out g e).2;omega⟩,by have:=hb3.size;omega⟩))
   clear h3 hf3 HCALL hbv HM hb3
   go_wp2_with fail
   rw[← hW3];refine(aV W3 p s r2.st H3.out.rd).mono ?_;rintro e w4 ⟨rfl,nd,rfl⟩;clear d0 d1 d2 hW3 hql;obtain⟨W4,hW4⟩:∃W4,W4=W3.drewN nd:=⟨_,rfl⟩;have H4:=hid (show RrAt W4 q p s r2 from by rw[hW4];exact H3.out.drewN nd);have HF4:=hid (show Fr (λk=>k=p∨k=q) w W4 from by rw[hW4];exact HF3.out.drewN nd);have HO4:=hid (show OwnAuc W4 B (.slice l0 n0 c9) acc from by rw[hW4];exact HO3.out);have HM4:=hid (show ∀m∈acc++[(x,Value.slice ba x.bids.length bc)],BidsAt (λg=>(B≤g∧(Value.slice l0 n0 c9).ownBlock≠some g)∧g<W4.heap.size) W4 m.2 m.1.bids from by rw[hW4];exact HM3.out);have k4:W4.heap[w3.heap.size]?=some (.cells #[.int .i64 x.id,.int .i64 x.seller,.int .i64 x.inst,.bool x.sealed,.int .i64 x.qty,.int .i64 x.reserve,.int .i64 x.step,.int .i64 x.fin,.slice ba x.bids.length bc] 68 (0,0)):=by rw[hW4];exact K3.out
   have hk4:=lt_of_block k4;obtain⟨x0,x1,x2,x3,x4,x5,x6,x7,x8⟩:=kq k4;rw[← hW4];clear hW4 H3 HF3 HO3 HO HM3 k4 K3;by_cases he:r2.st.e=0
   ·have hq1:(r2.st.e == 0)=true:=by simpa using he
    have hq2:(r2.st.e != 0)=false:=by simpa using he
    have HQN:=hid (HQ9.out.trans (nR HXX.out he));have hown:=HO4.out;have HOA:=hid (hown.alloc (.cells #[.int .i64 x.id,.int .i64 x.seller,.int .i64 x.inst,.bool x.sealed,.int .i64 x.qty,.int .i64 x.reserve,.int .i64 x.step,.int .i64 x.fin,.slice ba x.bids.length bc] 68));have hsz:=HF4.out.size;obtain⟨i0,hi,hz0,hz1,hz2⟩:=info_parts Tryz.infoAuc;have HI:=hid hi;have HZ0:=hid hz0;have HZ1:=hid hz1;have HZ2:=hid hz2;have HH:=HBB.out;clear hi hz0 hz1 hz2 hown he
    go_wp2_with (first
     | (refine wpList_append_lies _ rfl _ _ 27 rfl B 68 i0 _ 9 88 Tryz.underlying27 HI.out HZ0.out HZ1.out HZ2.out rfl (by omega) _ acc.length _ rfl HOA.out ⟨W4.heap.size,0,none⟩ 1 1 [.int .i64 x.id,.int .i64 x.seller,.int .i64 x.inst,.bool x.sealed,.int .i64 x.qty,.int .i64 x.reserve,.int .i64 x.step,.int .i64 x.fin,.slice ba x.bids.length bc] rfl rfl (aE rfl rfl) (by simp[Value.oneCell']) (by omega) (by unfold maxLen;omega) (by omega) (by simp;omega) (W4.heap.size+1) (by simp) ?_;intro gg cap w8 hown8 hgrow8 hat8 hlt8))
    have HG:=hid (show Fr (λk=>some k=(Value.slice l0 n0 c9).ownBlock) W4 w8 from((Fr.refl _ W4).alloc _).grown hgrow8 (λk hk e=>e.symm));have HGB:=hid (HG.out.mono (T:=λk=>B≤k) (λk hk e=>nJ HO4.out e.symm));have HAT:=hid (show(Value.slice l0 n0 c9).ownBlock=some gg∨gg=W4.heap.size+1 from hat8);clear hgrow8 hat8
    go_roundw
    case rel=>
     refine⟨acc++[(x,Value.slice ba x.bids.length bc)],r2,by simp,by simp;omega,hid (ol hown8),hid (H4.out.kept HGB.out (by have:=HQP.out;omega) (by have:=HQP.out;omega)),hid (HF4.out.then HGB.out (λi hi e=>by omega)),hid ?_,hid ?_⟩
     ·rw[HQN.out,List.length_append,List.length_singleton,List.map_append]
      congr 1;have:=HFF.out;omega
     ·intro m hm
      refine((HM4.out m hm).kept HG.out (λg hg e=>hg.1.2 e.symm)).mono (λg hg=>⟨⟨hg.1.1,λe=>?_⟩,by have:=HG.out.size;omega⟩);have e2:gg=g:=by cases e;rfl
      rcases HAT.out with h9|h9
      ·exact hg.1.2 (by rw[h9,e2])
      ·omega
    case measure=>simp[intOf];omega
   ·have hq1:(r2.st.e == 0)=false:=by simpa using he
    have hq2:(r2.st.e != 0)=true:=by simpa using he
    have HQN:=hid (HQ9.out.trans (nQ HXX.out he));clear he;go_wp2;go_ret;rw[HQN.out];exact⟨⟨_,rfl,AucsAt.nil _⟩,H4.out,HF4.out⟩
  ·have hq9:=HQ.out
   rw[show N-acc.length=0 from by omega,mj]at hq9;have HQ9:=hid hq9;clear hq9 HQ;go_wp2;go_ret;rw[HQ9.out];exact⟨⟨_,rfl,acc,rfl,SlAt.of_own AucD.cells_len HO.out (λg hg=>nJ HO.out hg),λm hm=>(HM.out m hm).mono (λg hg=>hg.1.1)⟩,HA.out,HF.out⟩
def oo (up:Nat→RS→Int×RS)(lg:RS→Int×RS)(ys:RS→Bool×RS)(ls:RS→List BidD×RS)(r:RS):AucD×RS:=
 let a:=lg r;let b:=up 64 a.2;let c:=up 16 b.2;let d:=ys c.2;let e:=lg d.2;let f:=lg e.2;let g:=lg f.2;let h:=lg g.2;let i:=ls h.2
 (⟨a.1,b.1,c.1,d.1,e.1,f.1,g.1,h.1,i.1⟩,i.2)
theorem oq (s:List UInt8)(r:RS):mu s r=oo (RS.upTo s) (RS.long s) (RS.yes s) (RS.list s (mr s)) r:=rfl
def stG (lg:RS→Int×RS)(l1:RS→List AccD×RS)(l2:RS→List InsD×RS)(l3:RS→List RowD×RS)(l4:RS→List OrdD×RS)(l5:RS→List AucD×RS)(r:RS):StD×RS:=
 let a:=lg r;let b:=lg a.2;let c:=lg b.2;let d:=lg c.2
 let e:=l1 d.2;let f:=l2 e.2;let g:=l3 f.2;let h:=l4 g.2;let i:=l5 h.2
 (⟨a.1,b.1,c.1,d.1,e.1,f.1,g.1,h.1,i.1⟩,i.2)
theorem ot (s:List UInt8)(r:RS):stR s r=stG (RS.long s) (RS.list s (ml s)) (RS.list s (mn s)) (RS.list s (mo s)) (RS.list s (mq s)) (RS.list s (mu s)) r:=rfl
def vwG (l1:RS→List OpnD×RS)(l2:RS→List LotD×RS)(l3:RS→List PosD×RS)(l4:RS→List LinD×RS)(r:RS):VwD×RS:=
 let a:=l1 r;let b:=l2 a.2;let c:=l3 b.2;let d:=l4 c.2
 (⟨a.1,b.1,c.1,d.1⟩,d.2)
theorem ou (s:List UInt8)(r:RS):vwR s r=vwG (RS.list s (mw s)) (RS.list s (mx s)) (RS.list s (my s)) (RS.list s (mz s)) r:=rfl
theorem ov {up:Nat→RS→Int×RS}{lg:RS→Int×RS}{ys:RS→Bool×RS}{ls:RS→List BidD×RS}{r r1 r2 r3 r4 r5 r6 r7 r8 r9:RS}{x0 x1 x2:Int}{x3:Bool}{x4 x5 x6 x7:Int}{x8:List BidD}
  (h0:lg r=(x0,r1)) (h1:up 64 r1=(x1,r2)) (h2:up 16 r2=(x2,r3)) (h3:ys r3=(x3,r4)) (h4:lg r4=(x4,r5)) (h5:lg r5=(x5,r6)) (h6:lg r6=(x6,r7)) (h7:lg r7=(x7,r8)) (h8:ls r8=(x8,r9)) :
  oo up lg ys ls r=(⟨x0,x1,x2,x3,x4,x5,x6,x7,x8⟩,r9):=by
 unfold oo;simp only[h0,h1,h2,h3,h4,h5,h6,h7,h8]
theorem ow {lg:RS→Int×RS}{l1:RS→List AccD×RS}{l2:RS→List InsD×RS}{l3:RS→List RowD×RS}{l4:RS→List OrdD×RS}{l5:RS→List AucD×RS}{r r1 r2 r3 r4 r5 r6 r7 r8 r9:RS}{x0 x1 x2 x3:Int}{x4:List AccD}{x5:List InsD}{x6:List RowD}{x7:List OrdD}{x8:List AucD}
  (h0:lg r=(x0,r1)) (h1:lg r1=(x1,r2)) (h2:lg r2=(x2,r3)) (h3:lg r3=(x3,r4)) (h4:l1 r4=(x4,r5)) (h5:l2 r5=(x5,r6)) (h6:l3 r6=(x6,r7)) (h7:l4 r7=(x7,r8)) (h8:l5 r8=(x8,r9)) :
  stG lg l1 l2 l3 l4 l5 r=(⟨x0,x1,x2,x3,x4,x5,x6,x7,x8⟩,r9):=by
 unfold stG;simp only[h0,h1,h2,h3,h4,h5,h6,h7,h8]
theorem ox {l1:RS→List OpnD×RS}{l2:RS→List LotD×RS}{l3:RS→List PosD×RS}{l4:RS→List LinD×RS}{r r1 r2 r3 r4:RS}{x0:List OpnD}{x1:List LotD}{x2:List PosD}{x3:List LinD}
  (h0:l1 r=(x0,r1)) (h1:l2 r1=(x1,r2)) (h2:l3 r2=(x2,r3)) (h3:l4 r3=(x3,r4)):vwG l1 l2 l3 l4 r=(⟨x0,x1,x2,x3⟩,r4):=by
 unfold vwG;simp only[h0,h1,h2,h3]
end
end Go.Proofs.YtaeakdichkhjaaaGreatDoor
