/- The walks of state.accounts, instruments. -/
import Derived.Deep.AppendLies
import Derived.Test.YtaeakdichkhjaaaGreatDoorQAl
import Derived.Test.YtaeakdichkhjaaaGreatDoorQAi
set_option maxHeartbeats 2000000
open Go.Lib(hid)
namespace Go.Proofs.YtaeakdichkhjaaaGreatDoor
section
open Go.RowKit Go.Sort Go.Shelf
theorem nI {w:World}{base:Nat}{v:Value}{ns:List (List UInt8)}{s:List UInt8}(h:w.ownsRow base 9 1 v (ns.length+1) (ns.map encStr++[.string ⟨s.toArray⟩])):OwnStrs w base v (ns++[s]):=by
 show w.ownsRow base _ 1 v (ns++[s]).length ((ns++[s]).map encStr);rw[List.length_append,List.map_append];exact h
theorem nJ {w:World}{base:Nat}{e:TypeId}{size:Nat}{v:Value}{n:Nat}{xs:List Value}(h:w.ownsRow base e size v n xs){g:Nat}(hg:v.ownBlock=some g):base≤g:=by
 rcases h.2 with⟨rfl,_⟩|⟨k,cap,cur,rfl,hb,_⟩
 ·cases hg
 ·cases hg;exact hb
set_option maxRecDepth 100000 in
theorem nK (F:Nat→Prop)(w:World)(v:StV)(s:StD)(h:StAt F w v s)(hlen:s.accts.length≤4398046511104)(hz:∀x∈s.accts,x.name.length≤140737488355328) :
  Calls Tryz.prog 257 #[.agg (jc s v)] w λe w'=>TB (jn s) e∧Below w.heap.size w w':=by
 obtain⟨va,vi,vr,vo,vu⟩:=v;obtain⟨a0,c0,he⟩:=h.a.shape;dsimp only at he;subst he;have HA:=hid h.a;have HZ:=hid hz;clear h hz;unfold jc;dsimp only;obtain⟨B,hB⟩:∃B,B=w.heap.size:=⟨_,rfl⟩;have HBB:=hid hB;obtain⟨ns,hns⟩:∃ns,ns=s.accts.map (·.name):=⟨_,rfl⟩;have HNS:=hid hns;have hnl:s.accts.length=ns.length:=by rw[hns,List.length_map]
 have HNL:=hid hnl;clear hns hB hnl
 go_enter Tryz.func257,Tryz.ntmps257
 go_wp2
 go_loopw [3,9] (λl i wr=>∃k:Nat,i = .int .i64 k∧k≤s.accts.length∧Hid (OwnStrs wr B l (ns.take k))∧Hid (Below w.heap.size w wr)) (λ_ i _=>s.accts.length-(intOf i).toNat)
 case atStart=>exact⟨0,rfl,by omega,hid (World.ownsRow_nil _ _ _ _),hid (ke _ _)⟩
 case round=>
  obtain⟨k,rfl,hk,HO,HB⟩:=hrel;obtain⟨l0,n0,c1,rfl⟩:=aD HO.out;by_cases hlt:k<s.accts.length
  ·obtain⟨b,o,rfl,hF,hbl,g0,g1⟩:=AccD.at (HA.out.pure HB.out) k hlt
   obtain⟨nm,hnm⟩:∃nm,nm=s.accts[k].name:=⟨_,rfl⟩;obtain⟨bo,hbo⟩:∃bo,bo=s.accts[k].opn:=⟨_,rfl⟩;rw[← hnm]at g0;rw[← hbo]at g1;have hlk:k<ns.length:=by rw[← HNL.out];exact hlt
   have HNM:=hid (show ns.take (k+1)=ns.take k++[nm]from by
    rw[List.take_succ_eq_append_getElem hlk,hnm];congr 2;have h9:=HNS.out;subst h9;rw[List.getElem_map])
   have HTL:=hid (show(ns.take k).length=k from by rw[List.length_take];omega);have hown:=HO.out;unfold OwnStrs at hown;rw[HTL.out]at hown;have hsz:=HB.out.size;have HO1:=hid ((hown.alloc (.cells #[.string ⟨nm.toArray⟩,.bool bo] 70)).alloc (.cells #[.string ⟨nm.toArray⟩] 9));obtain⟨i0,hi,hz0,hz1,hz2⟩:=info_parts Tryz.infoStr;have HI:=hid hi;have HZ0:=hid hz0;have HZ1:=hid hz1;have HZ2:=hid hz2;have HH:=HBB.out;clear hi hz0 hz1 hz2 hF hnm hbo hown HA
   go_wp2_with (first
    | (refine wpList_append_lies _ rfl _ _ 86 rfl B 9 i0 _ 1 16 Tryz.underlying86 HI.out HZ0.out HZ1.out HZ2.out rfl (by omega) _ k _ rfl HO1.out ⟨wr.heap.size+1,0,none⟩ 1 1 [.string ⟨nm.toArray⟩] rfl rfl (aE rfl (by simp)) (by simp[Value.oneCell']) (by omega) (by unfold maxLen;omega) (by omega) (by simp;omega) (wr.heap.size+1+1) (by simp) ?_;intro gg cap w8 hown8 hgrow8 hat8 hlt8))
   go_roundw
   case rel=>
    refine⟨k+1,by go_num,by omega,hid ?_,hid ?_⟩
    ·rw[HNM.out]
     apply nI;rw[HTL.out];exact hown8
    ·exact((HB.out.alloc hsz _).alloc (by simp;omega) _).grown hgrow8 (by simp;omega) (λj e=>by have:=nJ HO.out (by exact e);omega)
   case measure=>simp[intOf];omega
  ·have hkl:k=s.accts.length:=by omega
   have hall:ns.take k=ns:=List.take_of_length_le (by rw[← HNL.out];omega);have hown:OwnStrs wr B (.slice l0 n0 c1) ns:=by have:=HO.out;rw[hall]at this;exact this
   have hn0:n0=ns.length:=by
    rcases hown.2 with⟨h0,hn⟩|⟨g,cap,cur,h0,_⟩
    ·cases h0;exact hn.symm
    ·cases h0;rfl
   subst hn0;have HOW:=hid hown;have hBw:B≤wr.heap.size:=by rw[HBB.out];exact HB.out.size
   have HBL:=hid (show Below B w wr from by rw[HBB.out];exact HB.out);clear hall hown HO;by_cases h64:ns.length≤64
   ·have HN:=hid (nH wr B _ ns HOW.out hBw (by omega) (λx hx=>by
     have h9:=HNS.out;rw[h9]at hx;obtain⟨y,hy,rfl⟩:=List.mem_map.1 hx;exact HZ.out y hy))
    go_wp2_with fail
    refine HN.out.mono ?_;rintro e w2 ⟨⟨bb,hbb,rfl⟩,hb2⟩;have HX:=hid (show bb=true↔jn s from hbb.trans ⟨λh=>⟨by rw[HNL.out];exact h64,by rw[← HNS.out];exact h⟩,λh=>by rw[HNS.out];exact h.2⟩);have HB2:=hid (show Below w.heap.size w w2 from by rw[← HBB.out];exact HBL.out.trans hb2);clear hbb hb2;go_wp2;go_ret;exact⟨⟨bb,HX.out,rfl⟩,HB2.out⟩
   ·have hno:¬jn s:=λh=>h64 (by rw[← HNL.out];exact h.1)
    have HNO:=hid hno;clear hno;go_wp2;go_ret;exact⟨TB.no HNO.out,HB.out⟩
set_option maxRecDepth 100000 in
theorem nL (F:Nat→Prop)(w:World)(v:StV)(s:StD)(h:StAt F w v s)(hlen:s.insts.length≤4398046511104)(hz:∀x∈s.insts,x.name.length≤140737488355328) :
  Calls Tryz.prog 258 #[.agg (jc s v)] w λe w'=>TB (jo s) e∧Below w.heap.size w w':=by
 obtain⟨va,vi,vr,vo,vu⟩:=v;obtain⟨a0,c0,he⟩:=h.i.shape;dsimp only at he;subst he;have HA:=hid h.i;have HZ:=hid hz;clear h hz;unfold jc;dsimp only;obtain⟨B,hB⟩:∃B,B=w.heap.size:=⟨_,rfl⟩;have HBB:=hid hB;obtain⟨ns,hns⟩:∃ns,ns=s.insts.map (·.name):=⟨_,rfl⟩;have HNS:=hid hns;have hnl:s.insts.length=ns.length:=by rw[hns,List.length_map]
 have HNL:=hid hnl;clear hns hB hnl
 go_enter Tryz.func258,Tryz.ntmps258
 go_wp2
 go_loopw [3,9] (λl i wr=>∃k:Nat,i = .int .i64 k∧k≤s.insts.length∧Hid (OwnStrs wr B l (ns.take k))∧Hid (Below w.heap.size w wr)∧Hid (∀j (hj:j<s.insts.length),j<k→ji s.insts[j].tick 1 1073741824)) (λ_ i _=>s.insts.length-(intOf i).toNat)
 case atStart=>exact⟨0,rfl,by omega,hid (World.ownsRow_nil _ _ _ _),hid (ke _ _),hid (λj _ h=>by omega)⟩
 case round=>
  obtain⟨k,rfl,hk,HO,HB,HT⟩:=hrel;obtain⟨l0,n0,c1,rfl⟩:=aD HO.out;by_cases hlt:k<s.insts.length
  ·obtain⟨b,o,rfl,hF,hbl,g0,g1,g2⟩:=InsD.at (HA.out.pure HB.out) k hlt
   obtain⟨x,hx⟩:∃x,x=s.insts[k]:=⟨_,rfl⟩;rw[← hx]at g0 g1 g2;obtain⟨nm,hnm⟩:∃nm,nm=x.name:=⟨_,rfl⟩;obtain⟨tk,htk⟩:∃tk,tk=x.tick:=⟨_,rfl⟩;obtain⟨bo,hbo⟩:∃bo,bo=x.halt:=⟨_,rfl⟩;rw[← hnm]at g0;rw[← htk]at g1;rw[← hbo]at g2;have hlk:k<ns.length:=by rw[← HNL.out];exact hlt
   have HNM:=hid (show ns.take (k+1)=ns.take k++[nm]from by
    rw[List.take_succ_eq_append_getElem hlk,hnm,hx];congr 2;have h9:=HNS.out;subst h9;rw[List.getElem_map])
   have HTK:=hid (show tk=s.insts[k].tick from by rw[htk,hx]);have HTL:=hid (show(ns.take k).length=k from by rw[List.length_take];omega);have hown:=HO.out;unfold OwnStrs at hown;rw[HTL.out]at hown;have hsz:=HB.out.size;have HO1:=hid ((hown.alloc (.cells #[.string ⟨nm.toArray⟩,.int .i64 tk,.bool bo] 72)).alloc (.cells #[.string ⟨nm.toArray⟩] 9));obtain⟨i0,hi,hz0,hz1,hz2⟩:=info_parts Tryz.infoStr;have HI:=hid hi;have HZ0:=hid hz0;have HZ1:=hid hz1;have HZ2:=hid hz2;have HH:=HBB.out;clear hi hz0 hz1 hz2 hF hnm hbo hown HA htk hx
   go_wp2_with fail
   refine(kf _ tk 1 1073741824).mono ?_;rintro e w5 ⟨⟨bb,hbb,rfl⟩,rfl⟩;have HBT:=hid hbb;clear hbb;cases bb
   ·have hno:¬jo s:=λh=>by
     have h1:=h.1 _ (List.getElem_mem hlt);rw[← HTK.out]at h1;have:=HBT.out.2 h1;cases this
    have HNO:=hid hno;clear hno;go_wp2;go_ret;exact⟨TB.no HNO.out,(by repeat (first|exact Below.refl _ _|exact HB.out|refine Below.drew ?_|refine Below.alloc ?_ (by first|exact Nat.le_refl _|exact HB.out.size|(simp;done)|(simp;omega)|omega|(have:=HB.out.size;simp;omega)) _|refine Below.setCell ?_ (by first|exact Nat.le_refl _|exact HB.out.size|(simp;done)|(simp;omega)|omega|(have:=HB.out.size;simp;omega)) _))⟩
   ·have HTN:=hid (show ∀j (hj:j<s.insts.length),j<k+1→ji s.insts[j].tick 1 1073741824 from λj hj hjk=>by
     by_cases e:j=k
     ·subst e;rw[← HTK.out];exact HBT.out.1 rfl
     ·exact HT.out j hj (by omega))
    go_wp2_with (first
     | (refine wpList_append_lies _ rfl _ _ 86 rfl B 9 i0 _ 1 16 Tryz.underlying86 HI.out HZ0.out HZ1.out HZ2.out rfl (by omega) _ k _ rfl HO1.out ⟨wr.heap.size+1,0,none⟩ 1 1 [.string ⟨nm.toArray⟩] rfl rfl (aE rfl (by simp)) (by simp[Value.oneCell']) (by omega) (by unfold maxLen;omega) (by omega) (by simp;omega) (wr.heap.size+1+1) (by simp) ?_;intro gg cap w8 hown8 hgrow8 hat8 hlt8))
    go_roundw
    case rel=>
     refine⟨k+1,by go_num,by omega,hid ?_,hid ?_,HTN⟩
     ·rw[HNM.out]
      apply nI;rw[HTL.out];exact hown8
     ·exact((HB.out.alloc hsz _).alloc (by simp;omega) _).grown hgrow8 (by simp;omega) (λj e=>by have:=nJ HO.out (by exact e);omega)
    case measure=>simp[intOf];omega
  ·have hkl:k=s.insts.length:=by omega
   have hall:ns.take k=ns:=List.take_of_length_le (by rw[← HNL.out];omega);have hown:OwnStrs wr B (.slice l0 n0 c1) ns:=by have:=HO.out;rw[hall]at this;exact this
   have hn0:n0=ns.length:=by
    rcases hown.2 with⟨h0,hn⟩|⟨g,cap,cur,h0,_⟩
    ·cases h0;exact hn.symm
    ·cases h0;rfl
   subst hn0;have HOW:=hid hown;have hBw:B≤wr.heap.size:=by rw[HBB.out];exact HB.out.size
   have HBL:=hid (show Below B w wr from by rw[HBB.out];exact HB.out);have HTA:=hid (show ∀x∈s.insts,ji x.tick 1 1073741824 from λx hx=>by
    obtain⟨j,hj,rfl⟩:=List.getElem_of_mem hx;exact HT.out j hj (by omega))
   clear hall hown HO;by_cases h64:ns.length≤16
   ·have HN:=hid (nH wr B _ ns HOW.out hBw (by omega) (λx hx=>by
     have h9:=HNS.out;rw[h9]at hx;obtain⟨y,hy,rfl⟩:=List.mem_map.1 hx;exact HZ.out y hy))
    go_wp2_with fail
    refine HN.out.mono ?_;rintro e w2 ⟨⟨bb,hbb,rfl⟩,hb2⟩;have HX:=hid (show bb=true↔jo s from hbb.trans ⟨λh=>⟨HTA.out,by rw[HNL.out];exact h64,by rw[← HNS.out];exact h⟩,λh=>by rw[HNS.out];exact h.2.2⟩);have HB2:=hid (show Below w.heap.size w w2 from by rw[← HBB.out];exact HBL.out.trans hb2);clear hbb hb2;go_wp2;go_ret;exact⟨⟨bb,HX.out,rfl⟩,HB2.out⟩
   ·have hno:¬jo s:=λh=>h64 (by rw[← HNL.out];exact h.2.1)
    have HNO:=hid hno;clear hno;go_wp2;go_ret;exact⟨TB.no HNO.out,HB.out⟩
end
end Go.Proofs.YtaeakdichkhjaaaGreatDoor
