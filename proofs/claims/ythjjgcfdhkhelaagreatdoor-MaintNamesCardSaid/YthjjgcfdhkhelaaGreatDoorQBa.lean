/-
  DERIVED: THE SHELF's CONTRACTS AT THIS DUMP, IN PLAIN WORDS (tools/lay-plain.mjs out of 'TryzMinD.lean', which tools/lay-shelf.mjs wrote): THE SAME DECLARATIONS UNDER THE SAME NAMES: 'import', 'namespace', 'open', 'def', 'theorem' AND NOTHING ELSE: no command of the shelf's: FOR A HAND-IN. Each laying: the table of numbers ('.._ren') and one theorem, a field a fact of the dump's own or the kernel's comparison; each contract: ONE APPLICATION.
-/
import Derived.Test.YthjjgcfdhkhelaaGreatDoorQAx
import Derived.Test.YthjjgcfdhkhelaaGreatDoorQAw
import Derived.Shelf.Small.Wraps
set_option maxHeartbeats 8000000
set_option maxRecDepth 100000
open Go.Lib(hid)
open Go.Proofs.Tryz
namespace Go.Proofs.YthjjgcfdhkhelaaGreatDoor
section
open Go.RowKit
theorem Tryz.infoIxP:(prog.info? 99).map (λi=>(i.zero,i.size,i.bytes))=some (some (.pointer none),1,8):=by kernel_rfl
theorem xg {w:World}{base n size:Nat}{e:TypeId}{v:Value}{xs:List Value}(h:w.ownsRow base e size v n xs)(h0:0<n):∃rb c,v = .slice (some ⟨rb,0,none⟩) n c:=by
 obtain⟨_,⟨_,h1⟩|⟨rb,c,_,e1,_⟩⟩:=h
 ·omega
 ·exact⟨rb,c,e1⟩
theorem xh {wr W w8:World}{p b base k0 gg cap:Nat}{lb:sL}{K1 Kb:Nat→Prop}{g1:cZ→cZ×Int}{f1:FnV}(h1:sA p b wr K1 f1 g1)(hk1:∀k,K1 k→k<wr.heap.size)(hBW:Below wr.heap.size wr W)
  (hlit:W.ownsRow base 93 1 (.slice (some ⟨k0,0,none⟩) 1 1) 1 [sC f1]) (hk0:wr.heap.size≤k0) (hdb:lb.Do p b W Kb) (hKb:∀k,Kb k→wr.heap.size≤k∧k≠k0) (hlb:lb.length=3)
  (hg:W.grownBy w8 (some k0)) (hown:w8.ownsRow base 93 1 (.slice (some ⟨gg,0,none⟩) (1+3) cap) (1+3) ([sC f1]++lb.cells)) (hat:some k0=some gg∨gg=W.heap.size) :
  ∃(ss:sL) (K:Nat→Prop),sV p b w8 base (.slice (some ⟨gg,0,none⟩) 4 cap) ss K∧ss.length=4∧ss.acts=g1::lb.acts∧Below wr.heap.size wr w8:=by
 have hs:=hBW.size;have R1:sV p b W base (.slice (some ⟨k0,0,none⟩) 1 1) [(f1,g1)] K1:=⟨hlit,λy hy=>by rw[List.mem_singleton.1 hy];exact h1.pure hBW,λk hk=>⟨Nat.lt_of_lt_of_le (hk1 k hk) hs,(h1.lt k hk).2⟩,λk hk e=>by have e2:k0=k:=Option.some.inj e;have:=hk1 k hk;omega⟩;have hlt:∀k,Kb k→k<W.heap.size∧k≠p∧k≠b:=λk hk=>by
  cases lb with
  | nil=>simp at hlb
  | cons y r=>exact(hdb y (by simp)).lt k hk
 have R2:=R1.more (l:=lb) hdb (λk hk=>⟨hlt k hk,λe=>(hKb k hk).2 (Option.some.inj e).symm⟩) hg (n:=1+3) hown (by rw[hlb];rfl) hat;exact⟨_,_,R2,by rw[List.length_append,hlb];rfl,by rw[sL.acts_append];rfl,hBW.grown hg hs (λj e=>by have e2:k0=j:=Option.some.inj e;omega)⟩
theorem xi (w wr:World)(F:Nat→Prop)(g p b:Nat)(st:cZ)(l:kR)(h0:tp w F g p b st l)(hbw:Below w.heap.size w wr)(hmay:bL l.gen (l.segs++[(l.gen,(l.next:Int))])=true)(r:ByteArray)(hr:r.data.toList=iM l.next)(lB mB eB cE:Nat)
  (hlB:w.heap.size≤lB) (hmB:w.heap.size≤mB) (heB:w.heap.size≤eB) (q0:wr.cell? ⟨lB,0,none⟩=some (.pointer (some ⟨g,0,none⟩))) (m0:wr.cell? ⟨mB,0,none⟩=some (.int .i64 l.gen)) (m1:wr.cell? ⟨mB,1,none⟩=some (.slice (some ⟨eB,0,none⟩) (l.segs.length+1) cE))
  (hsv:bJ wr (.slice (some ⟨eB,0,none⟩) (l.segs.length+1) cE) (l.segs++[(l.gen,(l.next:Int))])) (hel:eB<wr.heap.size) {u0 u2 u5 u7 u8 u9 u10 u11 u12 u13 u14 u15 u16 u17 u18 u19 u20 u21 u22 u23 u24 u25 u26 u27 u28 u29 u30 u31 u32 u33 u34 u35 u36 u37 u38 u39 u40 u41 u42 u43 u44 u45 u46 u47 u48 u49 u50 u51 u52 u53 u54 u55 u56 u57 u58 u59 u60 u61 u62 u63 u64 u65 u66 u67 u68 u69 u70 u71 u72 u73 u74 u75 u76 u77 u78 u79 u80 u81 u82 u83 u84 u85 u86 u87 u88 u89 u90 u91 u92:Value} :
  Code.wp prog (mq 6 (Tryz.f49.body.getD .skip)) (bodyPost prog Tryz.f49 λe w'=>e = .returned (.int .i64 (lq st l).2)∧tq w F g p b (lq st l).1 w') { tmps:=(List.toArray (u0 :: .pointer (some ⟨lB,0,none⟩)::u2 :: .int .i64 (l.next:Int) :: .string r::u5 :: .pointer (some ⟨mB,0,none⟩)::u7::u8::u9::u10::u11::u12::u13::u14::u15::u16::u17::u18::u19::u20::u21::u22::u23::u24::u25::u26::u27::u28::u29::u30::u31::u32::u33::u34::u35::u36::u37::u38::u39::u40::u41::u42::u43::u44::u45::u46::u47::u48::u49::u50::u51::u52::u53::u54::u55::u56::u57::u58::u59::u60::u61::u62::u63::u64::u65::u66::u67::u68::u69::u70::u71::u72::u73::u74::u75::u76::u77::u78::u79::u80::u81::u82::u83::u84::u85::u86::u87::u88::u89::u90::u91::u92::[])),defers:=[] } wr:=by
 have hROT:lq st l=if (kT (lp l) st).2≠0 then (((kT (lp l) st).1,l),(kT (lp l) st).2) else (((kT (lp l) st).1,l.turn),0):=by
  unfold lq;rw[hmay,if_neg (by decide)];rfl
 have HROT:=hid hROT;have henv0:=h0.pure hbw;have hws:=hbw.size;have hpw:=h0.dk.lt;have hbbw:=h0.dk.own.lt;have hPW:PW<w.heap.size:=bR h0.pow;have HSY:=hid (tw henv0);have HSYL:=hid (λ(k:Nat) (hk:F k∨k=PW)=>show k<wr.heap.size from by rcases hk with h|h;exact henv0.lt k h;omega);obtain⟨_,_,_,_,hlc,_⟩:=h0.lg;have hgw:=hlc.gl;obtain⟨_,_,_,_,hlc2,_⟩:=henv0.lg;obtain⟨g0,_,_,_,g4,_,_⟩:=hlc2.cs;have hgl:=hlc2.gl;have hrs:r.size≤140737488355328:=by have h1:=ao hr;rw[iN]at h1;omega
 obtain⟨G,hG,hG2⟩:∃G:Nat,l.gen=(G:Int)∧G≤99999999:=by obtain⟨h1,h2,_⟩:=gm h0.ok.may;exact⟨l.gen.toNat,by omega,by omega⟩
 have htop:=h0.ok.top;have HNL:=hid (show(b9 l.gen (l.next:Int)).length=20 from by rw[hG];exact kA G l.next hG2 htop);have HNAME:=hid (λW (hb:Below wr.heap.size wr W)=>cf W (bS hb henv0.pow) l.gen (l.next:Int));have HBEG:=hid (λW (hb:Below wr.heap.size wr W) (nm:ByteArray) (hnm:nm.data.toList=b9 l.gen (l.next:Int))=>sO W p nm r (by have h1:=ao hnm;rw[HNL.out]at h1;unfold maxLen;omega) hrs (by have:=hb.size;omega) b (by have:=hb.size;omega));have hlq:=aw q0;have hlm:=aw m0;have H0:=hid h0;have HW:=hid hbw;have HR:=hid hr;have HSV:=hid hsv;have HMAY:=hid hmay;have HENV:=hid henv0;have HMM:=hid (And.intro m0 m1);obtain⟨i0,hi,hz0,hz1,hz2⟩:=info_parts Tryz.infoStep;have HI:=hid hi;have HZ0:=hid hz0;have HZ1:=hid hz1;have HZ2:=hid hz2;have hmf:∀(fn:Fn) (first cap:Array Value) (w:World),(Instr.makeFunc fn first cap).run prog w = .ok (.func fn first cap) w:=λ_ _ _ _=>rfl;clear hROT h0 hbw hmay hr hsv henv0 m0 m1 hG hlc hlc2 hi hz0 hz1 hz2
 conv=>arg 2;whnf
 go_upto_region 8 with fail
 go_cut [7] (λv wx=>∃(ss:sL) (K:Nat→Prop),sV p b wx wr.heap.size v ss K∧ss.length=4∧ss.acts=(λst=>ln st l)::kW (b9 l.gen (l.next:Int)) (iM l.next)∧Below wr.heap.size wr wx)
 case first=>
  go_region_held3 (λw'=>w'.cell? ⟨lB,0,none⟩=some (.pointer (some ⟨g,0,none⟩))∧w'.cell? ⟨g,0,none⟩=some (.pointer (some ⟨p,0,none⟩))∧w'.cell? ⟨g,4,none⟩=some (.int .i64 l.gen)) (first|exact⟨q0,g0,g4⟩|exact⟨x0,x1,x2⟩|exact⟨y0,y1,y2⟩|exact⟨z0,z1,z2⟩|go_keep) (first
   | (go_at_call 37;refine(HNAME.out _ (by repeat (first|exact Below.refl _ _|refine Below.drew ?_|refine Below.alloc ?_ (by first|(simp;done)|(simp;omega)|omega) _))).mono ?_;rintro e wN ⟨⟨nm,hnm,rfl⟩,hbN⟩;have HN:=hid hnm;have HTN:=hid hbN;have BN:=Below.trans (show Below wr.heap.size wr _ from(by repeat (first|exact Below.refl _ _|refine Below.drew ?_|refine Below.alloc ?_ (by first|(simp;done)|(simp;omega)|omega) _))) (hbN.mono (by first|(simp;done)|(simp;omega)|omega));have x0:=(BN.cell (p:=⟨lB,0,none⟩) hlq).trans q0;have x1:=(BN.cell (p:=⟨g,0,none⟩) hgl).trans g0;have x2:=(BN.cell (p:=⟨g,4,none⟩) hgl).trans g4;have sN:=hbN.size;(try simp at sN);have HBN:=hid BN;clear hnm hbN BN)
   | (go_at_call 38;refine(HBEG.out _ (by repeat (first|exact HBN.out|refine Below.drew ?_|refine Below.alloc ?_ (by first|(simp;done)|(simp;omega)|omega) _)) _ HN.out).mono ?_;rintro e wB ⟨vb,lb,Kb,rfl,⟨gb,cb,rfl,hcb⟩,hlb,hab,hdb,hKb,hbB⟩;rw[hlb];have HCB:=hid hcb;have HLB:=hid hlb;have HAB:=hid hab;have HDB:=hid hdb;have HKB:=hid hKb;have HTB:=hid hbB;have BB:=Below.trans (show Below wr.heap.size wr _ from(by repeat (first|exact HBN.out|refine Below.drew ?_|refine Below.alloc ?_ (by first|(simp;done)|(simp;omega)|omega) _))) (hbB.mono (by first|(simp;done)|(simp;omega)|omega));have y0:=(BB.cell (p:=⟨lB,0,none⟩) hlq).trans q0;have y1:=(BB.cell (p:=⟨g,0,none⟩) hgl).trans g0;have y2:=(BB.cell (p:=⟨g,4,none⟩) hgl).trans g4;have sB:=hbB.size;(try simp at sB);have hlc:lb.cells.length=3*1:=(by unfold sL.cells;rw[List.length_map,hlb]);have hone:∀u∈lb.cells,u.oneCell'=true:=(by intro u hu;obtain⟨y,_,rfl⟩:=List.mem_map.1 hu;rfl);have HLC:=hid (And.intro hlc hone);have HBB:=hid BB;clear hcb hlb hab hdb hKb hbB BB hlc hone)
   | (refine step_append_lies _ (by rfl) _ _ _ (by rfl) wr.heap.size 93 i0 _ 1 8 underlying90 HI.out HZ0.out HZ1.out HZ2.out rfl (by omega) _ 1 [.func (.func 55) #[.pointer (some ⟨g,0,none⟩)] #[]] (by rfl) (by first|exact World.ownsRow_lit _ _ 1 (by first|(simp;done)|(simp;omega)|omega) (by decide) rfl|exact(Fr.pure (S:=λ_=>False) HTB.out).ownsRow (World.ownsRow_lit _ _ 1 (by first|(simp;done)|(simp;omega)|omega) (by decide) rfl) (λ_ _ h=>h)|exact(Fr.pure (S:=λ_=>False) HTB.out).ownsRow ((Fr.pure (S:=λ_=>False) HTN.out).ownsRow (World.ownsRow_lit _ _ 1 (by first|(simp;done)|(simp;omega)|omega) (by decide) rfl) (λ_ _ h=>h)) (λ_ _ h=>h)) ⟨gb,0,none⟩ 3 cb lb.cells (by rfl) HLC.out.1 (λj u hu=>by first|exact HCB.out j u hu|exact oQ _ (HCB.out j u hu)) HLC.out.2 (by omega) (by unfold maxLen;omega) (by omega) (by first|(simp;done)|(simp;omega)|omega) _ rfl ?_;intro gg cap w8 hown8 hgrow8 hat8 hlt8;have HROW:=hid (xh (lb:=lb) HSY.out HSYL.out (by repeat (first|exact HBB.out|refine Below.drew ?_|refine Below.alloc ?_ (by first|(simp;done)|(simp;omega)|omega) _)) (by first|exact World.ownsRow_lit _ _ 1 (by first|(simp;done)|(simp;omega)|omega) (by decide) rfl|exact(Fr.pure (S:=λ_=>False) HTB.out).ownsRow (World.ownsRow_lit _ _ 1 (by first|(simp;done)|(simp;omega)|omega) (by decide) rfl) (λ_ _ h=>h)|exact(Fr.pure (S:=λ_=>False) HTB.out).ownsRow ((Fr.pure (S:=λ_=>False) HTN.out).ownsRow (World.ownsRow_lit _ _ 1 (by first|(simp;done)|(simp;omega)|omega) (by decide) rfl) (λ_ _ h=>h)) (λ_ _ h=>h)) (by first|(simp;done)|(simp;omega)|omega) (by first|exact HDB.out|exact HDB.out.pure ((Below.refl _ _).alloc (Nat.le_refl _) _)) (λk hk=>by have h9:=HKB.out k hk;(try simp at h9);first|omega|(simp;omega)) HLB.out hgrow8 hown8 hat8);have F8:=sU hgrow8;have z0:=F8.cellAt (by first|exact y0|exact oQ _ y0) (λe=>by have e9:=Option.some.inj e;(try simp at e9);omega);have z1:=F8.cellAt (by first|exact y1|exact oQ _ y1) (λe=>by have e9:=Option.some.inj e;(try simp at e9);omega);have z2:=F8.cellAt (by first|exact y2|exact oQ _ y2) (λe=>by have e9:=Option.some.inj e;(try simp at e9);omega);clear hown8 hgrow8 hat8 F8))
  all_goals (go_wp2_with fail;go_meet;obtain⟨ss,K,h1,h2,h3,h4⟩:=HROW.out;exact⟨ss,K,h1,h2,by rw[h3,HAB.out,HN.out,HR.out],h4⟩)
 case rest=>
  obtain⟨ss,K,hrow,hsl,hac,hbx⟩:=hcut;have hsx:=hbx.size;obtain⟨a0,n0,p0,rfl⟩:=aB hrow.own;have HOWN:=hid (λ(y:Nat) (e:(Value.slice a0 n0 p0).ownBlock=some y)=>show wr.heap.size≤y∧y<wc.heap.size from⟨gt hrow.own e,sT hrow.own e⟩);have HBX:=hid hbx;have HRW:=hid hrow;have HAC:=hid hac;have HSL:=hid hsl;have hba:=(Below.refl wc.heap.size wc).alloc (Nat.le_refl _) (.cells #[.func (.func 109) #[] #[.pointer (some ⟨lB,0,none⟩),.pointer (some ⟨mB,0,none⟩)]] 93);have HBA:=hid (hbx.trans (hba.mono hsx));have HO:=hid (World.ownsRow.alloc (by have h:=hrow.own;unfold sR at h;rw[hsl]at h;exact h:wc.ownsRow wr.heap.size 93 1 (.slice a0 n0 p0) 4 ss.cells) (.cells #[.func (.func 109) #[] #[.pointer (some ⟨lB,0,none⟩),.pointer (some ⟨mB,0,none⟩)]] 93));have hKS:∀k,(k=lB∨k=g∨k=mB∨k=eB)→k<wr.heap.size∧k≠p∧k≠b:=by
   have hf:=H0.out.far;obtain⟨_,_,_,_,h5,h6,_⟩:=H0.out.lg;have h7:=hf g (h6 g h5.sg);rintro k (h|h|h|h)
   ·omega
   ·rw[h];exact⟨hgl,h7.1,h7.2.1⟩
   ·omega
   ·omega
  have hst:=tA (wc.alloc (.cells #[.func (.func 109) #[] #[.pointer (some ⟨lB,0,none⟩),.pointer (some ⟨mB,0,none⟩)]] 93)) lB mB g p b l.gen (.slice (some ⟨eB,0,none⟩) (l.segs.length+1) cE) (l.segs++[(l.gen,(l.next:Int))])
   ((HBA.out.cell (p:=⟨lB,0,none⟩) hlq).trans q0) ((HBA.out.cell (p:=⟨g,0,none⟩) hgl).trans g0) ((HBA.out.cell (p:=⟨mB,0,none⟩) hlm).trans HMM.out.1) ((HBA.out.cell (p:=⟨mB,1,none⟩) hlm).trans HMM.out.2) (HSV.out.pure HBA.out) (by have:=gm HMAY.out;omega)
   (λk=>k=lB∨k=g∨k=mB∨k=eB) (λk hk=>⟨by have:=(hKS k hk).1;simp;omega,(hKS k hk).2⟩) (.inl rfl) (.inr (.inl rfl)) (.inr (.inr (.inl rfl))) (λk hk=>.inr (.inr (.inr (Option.some.inj hk).symm)))
  have HST:=hid hst;have HKS:=hid hKS;have HBB:=hid hba;clear hrow hac hsl hbx hba hst hKS
  go_wp2_with (first
   | (refine wpList_append_lies _ rfl _ _ 90 rfl wr.heap.size 93 i0 _ 1 8 underlying90 HI.out HZ0.out HZ1.out HZ2.out rfl (by omega) _ 4 ss.cells rfl HO.out ⟨wc.heap.size,0,none⟩ 1 1 [.func (.func 109) #[] #[.pointer (some ⟨lB,0,none⟩),.pointer (some ⟨mB,0,none⟩)]] rfl rfl (aC rfl rfl) (by simp[Value.oneCell']) (by omega) (by unfold maxLen;omega) (by omega) (by simp;omega) (wc.heap.size+1) (by simp) ?_;intro gh ch w10 hown10 hgrow10 hat10 hlt10))
  have hz10:=hgrow10.size;simp at hz10;have hR10:=(HRW.out.pure HBB.out).more (l:=[((109,#[],#[.pointer (some ⟨lB,0,none⟩),.pointer (some ⟨mB,0,none⟩)]),λst=>jt st l.gen (l.segs++[(l.gen,(l.next:Int))]))]) (K2:=λk=>k=lB∨k=g∨k=mB∨k=eB) (λy hy=>by rw[List.mem_singleton.1 hy];exact HST.out) (λk hk=>⟨HST.out.lt k hk,λe=>by have h1:=HOWN.out k e;have h2:=(HKS.out k hk).1;omega⟩) hgrow10 (n:=4+1) hown10 (by rw[HSL.out];rfl) (hat10.imp id λe=>by simp;omega);have HR10:=hid hR10;have hfx:=HBA.out.grown hgrow10 (by simp;omega) (λj e=>(HOWN.out j e).1);have HFX:=hid hfx;have hlen:(ss++[(((109,#[],#[.pointer (some ⟨lB,0,none⟩),.pointer (some ⟨mB,0,none⟩)]):FnV),λst=>jt st l.gen (l.segs++[(l.gen,(l.next:Int))]))]).length=5:=by rw[List.length_append,HSL.out];rfl
  have HLEN:=hid hlen;have hacts:sL.acts (ss++[(((109,#[],#[.pointer (some ⟨lB,0,none⟩),.pointer (some ⟨mB,0,none⟩)]):FnV),λst=>jt st l.gen (l.segs++[(l.gen,(l.next:Int))]))])=lp l:=by rw[sL.acts_append,HAC.out];rfl
  have HACTS:=hid hacts;have HD10:=hid (HENV.out.dk.pure hfx);clear hR10 hfx hlen hacts hown10 hgrow10 hat10 hlt10 g4
  go_wp2_with fail
  refine(sS w10 p b wr.heap.size st _ _ (by rw[HLEN.out];omega) (by rw[HLEN.out];omega) HR10.out.own _ HR10.out.acts HD10.out (by omega) (by omega)).mono ?_;rintro e w1 ⟨rfl,hd1,hf1⟩;rw[HACTS.out]at hd1 ⊢;obtain⟨RR,hRR⟩:∃RR,RR=kT (lp l) st:=⟨_,rfl⟩;rw[← hRR]at hd1 ⊢;have HRES0:=HROT.out;rw[← hRR]at HRES0;have HRES1:=hid HRES0;have hfr:dY p b w w1:=(Fr.pure (HW.out.trans (HFX.out.mono hws))).trans hf1;have henv:=H0.out.disk hd1 hfr;have hsz1:=hf1.size;have hKp:=HKS.out;have q0:=hf1.cellAt ((HFX.out.cell (p:=⟨lB,0,none⟩) hlq).trans q0) (by omega);have m0:=hf1.cellAt ((HFX.out.cell (p:=⟨mB,0,none⟩) hlm).trans HMM.out.1) (by omega);have m1:=hf1.cellAt ((HFX.out.cell (p:=⟨mB,1,none⟩) hlm).trans HMM.out.2) (by omega);have hsv:=(HSV.out.pure HFX.out).kept hf1 (λk hk=>by have e9:=Option.some.inj hk;simp at e9;omega);have h0:=H0.out;have hmay:=HMAY.out;have hr:=HR.out;have hel1:eB<w1.heap.size:=by omega
  clear HRES0 hRR hd1 hf1 hKp g0 hel;have hel:=hel1;by_cases hz:RR.2=0
  ·have HRES:=hid (HRES1.out.trans (if_neg (by simpa using hz)))
   rw[hz];clear hz;obtain⟨sv,iv,xs,S,hc,hSF,hsF,hFl⟩:=henv.lg;have hpos:=henv.ok.pos;have hlen:=henv.ok.len;have hfew:=henv.ok.few;have hxl:=hc.len;obtain⟨rb,cI,rfl⟩:=xg hc.row (by omega);obtain⟨c0,c1,c2,c3,c4,c5,c6⟩:=hc.cs;have hgl:=hc.gl;obtain⟨ev,hev0,hev1,hev2,hev3⟩:=tG henv.ok.cfg;rw[← hev0]at c2;have HEV0:=hid hev0;have HEV3:=hid hev3;have hrs2:r.size≤1048576:=by have h1:=ao hr;rw[iN]at h1;omega
   have htop:=henv.ok.top;have HR:=hid hr;have HC:=hid hc;have HENV:=hid henv;have H0:=hid h0;have HFR:=hid hfr;have HSV:=hid hsv;have HMAY:=hid hmay;have HSF:=hid (And.intro hSF (And.intro hsF hFl));have HLL:=hid (And.intro hlen hxl);have hil:l.ix.length≤64:=by omega
   have hi0:0<l.ix.length:=by omega
   have HQ:=hid (And.intro q0 (And.intro m0 (And.intro m1 c6)));have hgw:g<w.heap.size:=by have:=H0.out.lg;obtain⟨_,_,_,_,h9,_⟩:=this;exact h9.gl
   clear henv h0 hfr hsv hmay hSF hsF hFl hc hr hev0 hev3 c0 c1 c3 c4 c5 hlen hxl
   go_wp2_with fail
   refine(pM r ev w1 hrs2 hev1 hev2).mono ?_;rintro e w2 ⟨hb2,h|⟨_,x,xv,hx,hxv,hix,rfl⟩⟩
   ·rw[HR.out,tF htop]at h;exact absurd rfl h.1
   rw[HR.out,tF htop]at hix;have q2:=(hb2.cell (p:=⟨lB,0,none⟩) (aw q0)).trans q0;have n0:=(hb2.cell (p:=⟨mB,0,none⟩) (aw m0)).trans m0;have n1:=(hb2.cell (p:=⟨mB,1,none⟩) (aw m1)).trans m1;have d6:=(hb2.cell (p:=⟨g,6,none⟩) hgl).trans c6;have hG2:=(hb2.block _ hgl).trans HC.out.cell;have HG2:=hid hG2;have HB2:=hid hb2;have HX:=hid hx;have HXV:=hid hxv;have HIX:=hid hix;have hlq:=aw q2;have hlm:=aw n0;have hlg:=aw d6;have HROW:=hid ((Fr.pure (S:=λ_=>False) hb2).ownsRow HC.out.row (λ_ _ h=>h));obtain⟨i0,hi,hz0,hz1,hz2⟩:=info_parts Tryz.infoIxP;have HI:=hid hi;have HZ0:=hid hz0;have HZ1:=hid hz1;have HZ2:=hid hz2;have hrbS:=HC.out.siv rb rfl;have hrbw:rb<w.heap.size:=H0.out.lt rb (HSF.out.1 rb hrbS);have hgrb:g≠rb:=by
    intro e;obtain⟨cur,hcur⟩:=tJ HC.out.row (show _=some rb from rfl);exact tI HC.out.cell (e▸hcur) (by decide) rfl
   have hgq:g≠lB:=by omega
   have hgm:g≠mB:=by omega
   clear hi hz0 hz1 hz2 hG2 hb2 hx hxv hix q0 m0 m1 c2 c6
   go_wp2_with fail
   refine pg (S:=(λw':World=>w'.cell? ⟨lB,0,none⟩=some (.pointer (some ⟨g,0,none⟩))∧w'.cell? ⟨mB,0,none⟩=some (.int .i64 l.gen)∧w'.cell? ⟨mB,1,none⟩=some (.slice (some ⟨eB,0,none⟩) (l.segs.length+1) cE)∧w'.cell? ⟨g,6,none⟩=some (.slice (some ⟨rb,0,none⟩) l.ix.length cI))) 15 (by kernel_rfl) ?_;have hHeld:(λw':World=>w'.cell? ⟨lB,0,none⟩=some (.pointer (some ⟨g,0,none⟩))∧w'.cell? ⟨mB,0,none⟩=some (.int .i64 l.gen)∧w'.cell? ⟨mB,1,none⟩=some (.slice (some ⟨eB,0,none⟩) (l.segs.length+1) cE)∧w'.cell? ⟨g,6,none⟩=some (.slice (some ⟨rb,0,none⟩) l.ix.length cI)) w2.drew:=⟨q2,n0,n1,d6⟩;refine oZ (i:=0) (oi:=_) (v:=?_) (by simp only[List.getElem?_toArray,List.getElem?_cons_zero];rfl) (by kernel_rfl) (by kernel_rfl) (by kernel_rfl) (by kernel_rfl) (by exact λ_ _ _ h=>h) (Or.inl ⟨by rfl,?_⟩) (by assumption) ?_;rotate_left
   ·(intro w hSw;(try dsimp only at hSw);go_simp;try with_reducible rfl)
   simp only[Act.put,List.setIfInBounds_toArray,List.set_cons_zero,List.set_cons_succ];refine oZ (i:=1) (oi:=_) (v:=?_) (by simp only[List.getElem?_toArray,List.getElem?_cons_succ,List.getElem?_cons_zero];rfl) (by kernel_rfl) (by kernel_rfl) (by kernel_rfl) (by kernel_rfl) (by exact λ_ _ _ h=>h) (Or.inl ⟨by rfl,?_⟩) (by assumption) ?_;rotate_left
   ·(intro w hSw;(try dsimp only at hSw);go_simp;try with_reducible rfl)
   simp only[Act.put,List.setIfInBounds_toArray,List.set_cons_zero,List.set_cons_succ];refine oZ (i:=2) (oi:=_) (v:=?_) (by simp only[List.getElem?_toArray,List.getElem?_cons_succ,List.getElem?_cons_zero];rfl) (by kernel_rfl) (by kernel_rfl) (by kernel_rfl) (by kernel_rfl) (by exact λ_ _ _ h=>h) (Or.inl ⟨by rfl,?_⟩) (by assumption) ?_;rotate_left
   ·(intro w hSw;(try dsimp only at hSw);go_simp;try with_reducible rfl)
   simp only[Act.put,List.setIfInBounds_toArray,List.set_cons_zero,List.set_cons_succ];refine oZ (i:=3) (oi:=_) (v:=?_) (by simp only[List.getElem?_toArray,List.getElem?_cons_succ,List.getElem?_cons_zero];rfl) (by kernel_rfl) (by kernel_rfl) (by kernel_rfl) (by kernel_rfl) (by exact λ_ _ _ h=>h) (Or.inl ⟨by rfl,?_⟩) (by assumption) ?_;rotate_left
   ·(intro w hSw;(try dsimp only at hSw);go_simp;try with_reducible rfl)
   simp only[Act.put,List.setIfInBounds_toArray,List.set_cons_zero,List.set_cons_succ];refine oZ (i:=4) (oi:=_) (v:=?_) (by simp only[List.getElem?_toArray,List.getElem?_cons_succ,List.getElem?_cons_zero];rfl) (by kernel_rfl) (by kernel_rfl) (by kernel_rfl) (by kernel_rfl) (by exact λ_ _ _ h=>h) (Or.inl ⟨by rfl,?_⟩) (by assumption) ?_;rotate_left
   ·(intro w hSw;(try dsimp only at hSw);go_simp;try with_reducible rfl)
   simp only[Act.put,List.setIfInBounds_toArray,List.set_cons_zero,List.set_cons_succ];refine oZ (i:=5) (oi:=_) (v:=?_) (by simp only[List.getElem?_toArray,List.getElem?_cons_succ,List.getElem?_cons_zero];rfl) (by kernel_rfl) (by kernel_rfl) (by kernel_rfl) (by kernel_rfl) (by exact λ_ _ _ h=>h) (Or.inl ⟨by rfl,?_⟩) (by assumption) ?_;rotate_left
   ·(intro w hSw;(try dsimp only at hSw);go_simp;try with_reducible rfl)
   simp only[Act.put,List.setIfInBounds_toArray,List.set_cons_zero,List.set_cons_succ];refine oZ (i:=6) (oi:=_) (v:=?_) (by simp only[List.getElem?_toArray,List.getElem?_cons_succ,List.getElem?_cons_zero];rfl) (by kernel_rfl) (by kernel_rfl) (by kernel_rfl) (by kernel_rfl) (by exact λ_ _ _ h=>h) (Or.inl ⟨by rfl,?_⟩) (by assumption) ?_;rotate_left
   ·(intro w hSw;(try dsimp only at hSw);go_simp;try with_reducible rfl)
   simp only[Act.put,List.setIfInBounds_toArray,List.set_cons_zero,List.set_cons_succ];refine oZ (i:=7) (oi:=_) (v:=?_) (by simp only[List.getElem?_toArray,List.getElem?_cons_succ,List.getElem?_cons_zero];rfl) (by kernel_rfl) (by kernel_rfl) (by kernel_rfl) (by kernel_rfl) (by exact λ_ _ _ h=>h) (Or.inl ⟨by rfl,?_⟩) (by assumption) ?_;rotate_left
   ·(intro w hSw;(try dsimp only at hSw);go_simp;try with_reducible rfl)
   simp only[Act.put,List.setIfInBounds_toArray,List.set_cons_zero,List.set_cons_succ];refine pd (i:=8) (o:=_) (by simp only[List.getElem?_toArray,List.getElem?_cons_succ,List.getElem?_cons_zero];rfl) (by kernel_rfl) (λK hK=>?_)
   go_simp
   refine hK.out _ _ (λ_=>⟨oQ _ q2,oQ _ n0,oQ _ n1,oQ _ d6⟩) ?_;clear hK K
   (try simp only[Act.put,List.setIfInBounds_toArray,List.set_cons_zero,List.set_cons_succ])
   refine pd (i:=9) (o:=_) (by simp only[List.getElem?_toArray,List.getElem?_cons_succ,List.getElem?_cons_zero];rfl) (by kernel_rfl) (λK hK=>?_);refine step_append_lies _ (by rfl) _ _ _ (by rfl) 0 99 i0 _ 1 8 underlying102 HI.out HZ0.out HZ1.out HZ2.out rfl (by omega) _ l.ix.length (xs.map sW) (by rfl) (by first|exact World.ownsRow.alloc HROW.out _|exact World.ownsRow.alloc (World.ownsRow.drew HROW.out) _) ⟨w2.heap.size,0,none⟩ 1 1 [.pointer (some ⟨x,0,none⟩)] (by rfl) (by rfl) (λj u hu=>by first|(rw[World.cell?_drew];exact aC rfl rfl j u hu)|exact aC rfl rfl j u hu) (by simp[Value.oneCell']) (by omega) (by unfold maxLen;omega) (by omega) (Nat.zero_le _) (w2.heap.size+1) (by simp) ?_;intro gg cap w3 hown3 hgrow3 hat3 hlt3;have F3:=sU hgrow3;have hG3:=F3.heapAt (((Fr.refl (λk=>(Value.slice (some ⟨rb,0,none⟩) l.ix.length cI).ownBlock=some k) w2).alloc (.cells #[.pointer (some ⟨x,0,none⟩)] 99)).heapAt HG2.out (λe=>hgrb (Option.some.inj e).symm)) (λe=>hgrb (Option.some.inj e).symm);have HG3:=hid hG3;have e0:=F3.cellAt (show World.cell? _ ⟨lB,0,none⟩=_ from oQ _ q2) (λe=>by have e2:=Option.some.inj e;simp at e2;omega);have e1:=F3.cellAt (show World.cell? _ ⟨mB,0,none⟩=_ from oQ _ n0) (λe=>by have e2:=Option.some.inj e;simp at e2;omega);have e2:=F3.cellAt (show World.cell? _ ⟨mB,1,none⟩=_ from oQ _ n1) (λe=>by have e2:=Option.some.inj e;simp at e2;omega);have e3:w3.cell? ⟨g,6,none⟩=some (.slice (some ⟨rb,0,none⟩) l.ix.length cI):=(cell_of_row _ _ _ _ _ _ hG3).trans rfl;have e4:w3.cell? ⟨g,4,none⟩=some (.int .i64 l.gen):=(cell_of_row _ _ _ _ _ _ hG3).trans rfl;have e5:w3.cell? ⟨g,5,none⟩=some sv:=(cell_of_row _ _ _ _ _ _ hG3).trans rfl;have y4:∀j:Nat,w3.frozen? ⟨g,j,none⟩=false:=λj=>frozen_of_row _ _ _ _ _ hG3;have HO3:=hid hown3;have HGR3:=hid hgrow3;have HAT3:=hid hat3;clear hG3 hown3 hgrow3 hat3 F3 hHeld;refine hK.out _ _ (λ_=>⟨e0,e1,e2,e3⟩) ?_;clear hK K
   (try simp only[Act.put,List.setIfInBounds_toArray,List.set_cons_zero,List.set_cons_succ])
   have hHeld:(λw':World=>w'.cell? ⟨lB,0,none⟩=some (.pointer (some ⟨g,0,none⟩))∧w'.cell? ⟨mB,0,none⟩=some (.int .i64 l.gen)∧w'.cell? ⟨mB,1,none⟩=some (.slice (some ⟨eB,0,none⟩) (l.segs.length+1) cE)∧w'.cell? ⟨g,6,none⟩=some (.slice (some ⟨rb,0,none⟩) l.ix.length cI)) w3:=⟨e0,e1,e2,e3⟩;refine oZ (i:=10) (oi:=_) (v:=?_) (by simp only[List.getElem?_toArray,List.getElem?_cons_succ,List.getElem?_cons_zero];rfl) (by kernel_rfl) (by kernel_rfl) (by kernel_rfl) (by kernel_rfl) (by exact λ_ _ _ h=>h) (Or.inl ⟨by rfl,?_⟩) (by assumption) ?_;rotate_left
   ·(intro w hSw;(try dsimp only at hSw);go_simp;try with_reducible rfl)
   simp only[Act.put,List.setIfInBounds_toArray,List.set_cons_zero,List.set_cons_succ];refine oZ (i:=11) (oi:=_) (v:=?_) (by simp only[List.getElem?_toArray,List.getElem?_cons_succ,List.getElem?_cons_zero];rfl) (by kernel_rfl) (by kernel_rfl) (by kernel_rfl) (by kernel_rfl) (by exact λ_ _ _ h=>h) (Or.inl ⟨by rfl,?_⟩) (by assumption) ?_;rotate_left
   ·(intro w hSw;(try dsimp only at hSw);go_simp;try with_reducible rfl)
   simp only[Act.put,List.setIfInBounds_toArray,List.set_cons_zero,List.set_cons_succ];refine pd (i:=12) (o:=_) (by simp only[List.getElem?_toArray,List.getElem?_cons_succ,List.getElem?_cons_zero];rfl) (by kernel_rfl) (λK hK=>?_)
   go_simp
   clear hHeld;have hHeld:(λw':World=>w'.cell? ⟨lB,0,none⟩=some (.pointer (some ⟨g,0,none⟩))∧w'.cell? ⟨mB,0,none⟩=some (.int .i64 l.gen)∧w'.cell? ⟨mB,1,none⟩=some (.slice (some ⟨eB,0,none⟩) (l.segs.length+1) cE)∧w'.cell? ⟨g,6,none⟩=some (.slice (some ⟨rb,0,none⟩) l.ix.length cI)) ((w3.setCell ⟨g,4,none⟩ (.int .i64 l.gen)).setCell ⟨g,5,none⟩ (.slice (some ⟨eB,0,none⟩) (l.segs.length+1) cE)):=⟨by rw[World.cell?_setCell_other _ _ _ _ (by intro e;have e9:=congrArg Addr.block e;simp at e9;omega),World.cell?_setCell_other _ _ _ _ (by intro e;have e9:=congrArg Addr.block e;simp at e9;omega)];exact e0,by rw[World.cell?_setCell_other _ _ _ _ (by intro e;have e9:=congrArg Addr.block e;simp at e9;omega),World.cell?_setCell_other _ _ _ _ (by intro e;have e9:=congrArg Addr.block e;simp at e9;omega)];exact e1,by rw[World.cell?_setCell_other _ _ _ _ (by intro e;have e9:=congrArg Addr.block e;simp at e9;omega),World.cell?_setCell_other _ _ _ _ (by intro e;have e9:=congrArg Addr.block e;simp at e9;omega)];exact e2,by rw[World.cell?_setCell_other _ _ _ _ (by intro e;have e9:=congrArg Addr.off e;simp at e9),World.cell?_setCell_other _ _ _ _ (by intro e;have e9:=congrArg Addr.off e;simp at e9)];exact e3⟩;refine hK.out _ _ (λ_=>hHeld) ?_;clear hK K
   (try simp only[Act.put,List.setIfInBounds_toArray,List.set_cons_zero,List.set_cons_succ])
   have e6:=hHeld.2.2.2;refine pd (i:=13) (o:=_) (by simp only[List.getElem?_toArray,List.getElem?_cons_succ,List.getElem?_cons_zero];rfl) (by kernel_rfl) (λK hK=>?_)
   go_simp
   refine hK.out _ _ (λ_=>hHeld) ?_;clear hK K
   (try simp only[Act.put,List.setIfInBounds_toArray,List.set_cons_zero,List.set_cons_succ])
   refine pd (i:=14) (o:=_) (by simp only[List.getElem?_toArray,List.getElem?_cons_succ,List.getElem?_cons_zero];rfl) (by kernel_rfl) (λK hK=>?_)
   go_simp
   refine hK.out _ _ (λ_=>hHeld) ?_;clear hK K
   (try simp only[Act.put,List.setIfInBounds_toArray,List.set_cons_zero,List.set_cons_succ])
   refine pd (i:=15) (o:=_) (by simp only[List.getElem?_toArray,List.getElem?_cons_succ,List.getElem?_cons_zero];rfl) (by kernel_rfl) (λK hK=>?_)
   go_simp
   refine hK.out _ _ (λh=>absurd rfl h) ?_;clear hK K
   (try simp only[Act.put,List.setIfInBounds_toArray,List.set_cons_zero,List.set_cons_succ])
   refine pf (by kernel_rfl) ?_ _;go_wp2;go_ret;rw[HRES.out];exact⟨rfl,tK H0.out HENV.out HFR.out HC.out HSF.out.1 HMAY.out HEV3.out heB hel HSV.out HB2.out HX.out HXV.out HIX.out (by first|exact(Below.refl _ _).alloc (Nat.le_refl _) _|exact(Below.refl _ _).drew.alloc (Nat.le_refl _) _) (by simp) HO3.out HGR3.out (HAT3.out.imp (λe=>e) (λe=>e)) hlt3 HG3.out⟩
  ·have HRES:=hid (HRES1.out.trans (if_pos (by simpa using hz)))
   have hne:(RR.2 == 0)=false:=by simpa using hz
   have hnn:(RR.2 != 0)=true:=by simpa using hz
   have HENV1:=hid henv;have HFR1:=hid hfr;clear hz henv hfr h0 hmay hr hsv q0 m0 m1;go_wp2;go_ret;rw[HRES.out];exact⟨rfl,F,HENV1.out,HFR1.out.mono λk _ h=>.inr h,λk hk=>.inl hk⟩
def BM:Array Value:=#[.string ⟨#[110,117,109,98,101,114,115]⟩,.func (.func 373) #[] #[],.string ⟨#[97,99,99,111,117,110,116,115]⟩,.func (.func 374) #[] #[],
 .string ⟨#[105,110,115,116,114,117,109,101,110,116,115]⟩,.func (.func 375) #[] #[],.string ⟨#[114,111,119,115]⟩,.func (.func 376) #[] #[],
 .string ⟨#[111,114,100,101,114,115]⟩,.func (.func 377) #[] #[],.string ⟨#[97,117,99,116,105,111,110,115]⟩,.func (.func 378) #[] #[],
 .string ⟨#[104,101,108,100]⟩,.func (.func 379) #[] #[]]
theorem BO (w:World):Calls prog 292 #[] w λe w'=>e = .returned (.slice (some ⟨w.heap.size,0,none⟩) 7 7)∧w'=w.alloc (.cells BM 389):=by
 go_enter func292,ntmps292
 go_wp2;go_ret;exact⟨rfl,rfl⟩
theorem BP (k:Nat)(hk:k<7)(c:Int)(h0:0≤c)(h1:c≤1000):∃(fk:FuncId) (nm:ByteArray),Enters prog fk∧BM[k*2]?=some (.string nm)∧BM[k*2+1]?=some (.func (.func fk) #[] #[]) ∧
  ∀w:World,Calls prog fk #[AZ c 0 1 1] w λe w'=>e = .returned (.bool true)∧Below w.heap.size w w':=by
 match k,hk with
 | 0,_=>exact⟨_,_,enters_of func373 (by kernel_rfl) rfl,rfl,rfl,λw=>Ba w c h0 h1⟩
 | 1,_=>exact⟨_,_,enters_of func374 (by kernel_rfl) rfl,rfl,rfl,λw=>Bb w c 0 1 1⟩
 | 2,_=>exact⟨_,_,enters_of func375 (by kernel_rfl) rfl,rfl,rfl,λw=>Bc w c 0 1 1⟩
 | 3,_=>exact⟨_,_,enters_of func376 (by kernel_rfl) rfl,rfl,rfl,λw=>Bg w c 0 1 1⟩
 | 4,_=>exact⟨_,_,enters_of func377 (by kernel_rfl) rfl,rfl,rfl,λw=>Bh w c 0 1 1⟩
 | 5,_=>exact⟨_,_,enters_of func378 (by kernel_rfl) rfl,rfl,rfl,λw=>Bi w c 0 1 1⟩
 | 6,_=>exact⟨_,_,enters_of func379 (by kernel_rfl) rfl,rfl,rfl,λw=>Bn w c 0 1 1⟩
theorem BQ (w:World)(c:Int)(h0:0≤c)(h1:c≤1000):Calls prog 222 #[AZ c 0 1 1] w λe w'=>e = .returned (.string ⟨#[]⟩)∧Below w.heap.size w w':=by
 unfold AZ
 go_enter func222,ntmps222
 go_wp2_with fail
 refine(BO _).mono ?_;rintro e w1 ⟨rfl,rfl⟩;obtain⟨b,hb⟩:∃b,b=w.heap.size:=⟨_,rfl⟩;obtain⟨W0,hW0⟩:∃W0,W0=(w.alloc (.cells #[.int .i64 c,.int .i64 0,.int .i64 1,.int .i64 1,.slice none 0 0,.slice none 0 0,.slice none 0 0,.slice none 0 0,.slice none 0 0] 56)).alloc (.cells BM 389):=⟨_,rfl⟩;have hsz:W0.heap.size=b+2:=by rw[hW0,hb];simp
 have k0:W0.heap[b]?=some (.cells (stC c 0 1 1) 56 (0,0)):=by rw[hW0,hb];exact(Below.heap_alloc _ _ _ (by simp)).trans (heap_alloc_new _ _)
 have k1:W0.heap[b+1]?=some (.cells BM 389 (0,0)):=by rw[hW0,hb];exact yS _ _ (by simp)
 have hbel:Below w.heap.size w W0:=by rw[hW0];exact((Below.refl _ _).alloc (Nat.le_refl _) _).alloc (by simp) _
 have K0:=hid k0;have K1:=hid k1;have HB:=hid hbel
 try simp only[World.size_alloc]
 rw[← hW0,← hb];have HBS:=hid hb;clear hW0 hb k0 k1 hbel;go_wp2
 go_loopw [7] (λi wr=>∃k:Nat,i = .int .i64 k∧k≤7∧Hid (Below W0.heap.size W0 wr)) (λi _=>7-(intOf i).toNat)
 case atStart=>exact⟨0,rfl,by omega,hid (Below.refl _ _)⟩
 case round=>
  obtain⟨k,rfl,hk,HF⟩:=hrel;by_cases hlt:k<7
  ·obtain⟨fk,nm,hent,ha1,ha2,hcon⟩:=BP k hlt c h0 h1
   have he:∀(args:Array Value) (w:World),(callFunc fk args).run prog w = .ok (.enter fk args) w:=hent;have r1:=(HF.out.block _ (lt_of_block K1.out)).trans K1.out;have r0:=(HF.out.block _ (lt_of_block K0.out)).trans K0.out;have g1:wr.cell? ⟨b+1,k*2,none⟩=some (.string nm):=(cell_of_row _ _ _ _ _ _ r1).trans ha1;have g2:wr.cell? ⟨b+1,k*2+1,none⟩=some (.func (.func fk) #[] #[]):=(cell_of_row _ _ _ _ _ _ r1).trans ha2;have HX:=hid (λj v (h:(stC c 0 1 1)[j]?=some v)=>((cell_of_row _ _ _ _ _ _ r0).trans h:wr.cell? ⟨b,j,none⟩=some v));have x0:=HX.out 0 _ rfl;have x1:=HX.out 1 _ rfl;have x2:=HX.out 2 _ rfl;have x3:=HX.out 3 _ rfl;have x4:=HX.out 4 _ rfl;have x5:=HX.out 5 _ rfl;have x6:=HX.out 6 _ rfl;have x7:=HX.out 7 _ rfl;have x8:=HX.out 8 _ rfl;have HCON:=hid hcon;have hwz:W0.heap.size≤wr.heap.size:=HF.out.size;have hbl:b<wr.heap.size:=aw x0;have hbl1:b+1<wr.heap.size:=aw g1;clear r0 r1 hent ha1 ha2 hcon
   go_wp2_with fail
   refine(HCON.out _).mono ?_;rintro e w4 ⟨rfl,hb4⟩;have HF4:=hid ((HF.out.alloc hwz _).trans (hb4.mono (by simp;omega)));clear hb4;go_wp2
   go_roundw
   case rel=>exact⟨k+1,by go_num,by omega,HF4⟩
   case measure=>simp[intOf];omega
  ·go_wp2
   go_ret;exact⟨rfl,HB.out.trans (HF.out.mono (by have:=HBS.out;omega))⟩
theorem BR (w:World)(c:Int)(h0:0≤c)(h1:c≤1000):Calls prog 167 #[AZ c 0 1 1] w λe w'=>e = .returned (.bool true)∧Below w.heap.size w w':=by
 unfold AZ
 go_enter func167,ntmps167
 go_wp2_with fail
 refine(show Calls prog 222 #[.agg #[.int .i64 c,.int .i64 0,.int .i64 1,.int .i64 1,.slice none 0 0,.slice none 0 0,.slice none 0 0,.slice none 0 0,.slice none 0 0]] _ _ from BQ _ c h0 h1).mono ?_;rintro e w1 ⟨rfl,hb1⟩;have HB:=hid (AW hb1);clear hb1;go_wp2;go_ret;exact⟨rfl,HB.out⟩
def rm (q:Int):bI→Nat
 | []=>0
 | [_]=>0
 | _::y::r=>if q<y.2 then 0 else rm q (y::r)+1
end
section
open Go.RowKit Go.Shelf
attribute [local go_sem] Oper.semAt_some
theorem um (w:World)(F:Nat→Prop)(g p b:Nat)(st:cZ)(l:kR)(h:tp w F g p b st l)(q:Nat)(h1:l.first≤(q:Int))(h3:q≤l.next) :
  Calls prog 44 #[.pointer (some ⟨g,0,none⟩),.int .i64 (q:Int),.int .i64 (q:Int)] w λe w'=>e = .returned (.tuple #[.slice none 0 0,.int .i64 0])∧Below w.heap.size w w':=by
 have H:=hid h;have htop:=h.ok.top;have hfew:=h.ok.few;have hlen:=h.ok.len;have hpos:=h.ok.pos;clear h;refine(callsIn_wide (n:=6)).1 ?_;refine callsIn_of_wp_marks func44 rfl trivial ?_ rfl;simp only[ntmps44,List.size_toArray,List.length_cons,List.length_nil,Nat.reduceAdd,Nat.reduceSub,Array.replicate_succ,Array.replicate_zero,List.push_toArray,List.append_toArray,List.nil_append,List.cons_append];obtain⟨w1,hw1⟩:∃w1,w1=(((w.alloc (.cells #[.int .i64 (q:Int)] 2)).alloc (.cells #[.int .i64 (q:Int)] 2)).alloc (.cells #[.slice none 0 0] 70)).alloc (.cells #[.int .i64 0] 26):=⟨_,rfl⟩;obtain⟨x,hx⟩:∃x,x=w.heap.size:=⟨_,rfl⟩;have hsz:w1.heap.size=x+4:=by rw[hw1,hx];simp
 have hbz:Below w.heap.size w w1:=by rw[hw1];exact((((Below.refl _ _).alloc (Nat.le_refl _) _).alloc (by simp) _).alloc (by simp;omega) _).alloc (by simp;omega) _
 have k0:w1.heap[x]?=some (.cells #[.int .i64 (q:Int)] 2 (0,0)):=by
  rw[hw1,hx];exact(Below.heap_alloc _ _ _ (by simp;omega)).trans ((Below.heap_alloc _ _ _ (by simp;omega)).trans ((Below.heap_alloc _ _ _ (by simp)).trans (heap_alloc_new _ _)))
 have k1:w1.heap[x+1]?=some (.cells #[.int .i64 (q:Int)] 2 (0,0)):=by
  rw[hw1,hx];exact(Below.heap_alloc _ _ _ (by simp)).trans ((Below.heap_alloc _ _ _ (by simp)).trans (oB _ _ (by simp)))
 have k2:w1.heap[x+1+1]?=some (.cells #[.slice none 0 0] 70 (0,0)):=by
  rw[hw1,hx];exact(Below.heap_alloc _ _ _ (by simp)).trans (oB _ _ (by simp))
 have k3:w1.heap[x+1+1+1]?=some (.cells #[.int .i64 0] 26 (0,0)):=by
  rw[hw1,hx];exact oB _ _ (by simp)
 have c0:w1.cell? ⟨x,0,none⟩=some (.int .i64 (q:Int)):=(cell_of_row _ _ _ _ _ _ k0).trans rfl;have c1:w1.cell? ⟨x+1,0,none⟩=some (.int .i64 (q:Int)):=(cell_of_row _ _ _ _ _ _ k1).trans rfl;have HK:=hid (And.intro k0 (And.intro k1 (And.intro k2 k3)));have HB:=hid hbz;have HX:=hid hx;clear k0 k1 k2 k3 hbz;have d0:decide ((q:Int)<0)=false:=by simp
 have d1:decide (q<q)=false:=by simp
 gi_wp2_with fail
 rw[← hw1,← hx];clear hw1 hx;refine wpIn_wide.2 ?_;have hnf:decide ((q:Int)<l.first)=false:=by simp;omega
 go_region_held3 (λw'=>w'.cell? ⟨x,0,none⟩=some (.int .i64 (q:Int))) (first|exact c0|go_keep) (first
   | (go_at_call 19;refine(s9 _ F g p l (H.out.pure (by first|exact HB.out|exact HB.out.drew)).lg (by omega)).mono ?_;rintro e w2 ⟨rfl,rfl⟩))
 have hnn:decide ((l.next:Int)<(q:Int))=false:=by simp;omega
 have hn9:decide (l.next<q)=false:=by simp;omega
 gi_wp2_with fail
 refine wpIn_wide.2 ?_;have c0d:w1.drew.cell? ⟨x,0,none⟩=some (.int .i64 (q:Int)):=c0;have c1d:w1.drew.cell? ⟨x+1,0,none⟩=some (.int .i64 (q:Int)):=c1
 go_region_held3 (λw'=>w'.cell? ⟨x+1,0,none⟩=some (.int .i64 (q:Int))) (first|exact c1d|exact x1|go_keep) (first
   | (go_at_call 20;refine(sZ _ F g p l (H.out.pure (by first|exact HB.out.drew|exact HB.out.drew.drew)).lg (by omega) (by omega)).mono ?_;rintro e w2 ⟨rfl,hb2⟩;have HB2:=hid ((show Below w1.heap.size w1 _ by first|exact(Below.refl _ _).drew|exact(Below.refl _ _).drew.drew).trans hb2);have x1:=(HB2.out.cell (p:=⟨x+1,0,none⟩) (by have:=aw c1;omega)).trans c1;clear hb2))
 have x0:=(HB2.out.cell (p:=⟨x,0,none⟩) (by have:=aw c0;omega)).trans c0;have hk2:=(HB2.out.block _ (lt_of_block HK.out.2.2.1)).trans HK.out.2.2.1;have hk3:=(HB2.out.block _ (lt_of_block HK.out.2.2.2)).trans HK.out.2.2.2;have y2:=(cell_of_row _ _ 0 _ _ _ hk2).trans (show(#[.slice none 0 0]:Array Value)[0]?=_ from rfl);have y3:=(cell_of_row _ _ 0 _ _ _ hk3).trans (show(#[.int .i64 0]:Array Value)[0]?=_ from rfl);have z2:=frozen_of_row _ _ 0 _ _ hk2;have z3:=frozen_of_row _ _ 0 _ _ hk3;have HBW:=hid (HB.out.trans (HB2.out.mono HB.out.size));have HK2:=hid (And.intro hk2 hk3);clear hk2 hk3
 gi_wp2
 have hf:Fr (λk=>k=x+1+1∨k=x+1+1+1) w2 ((w2.setCell ⟨x+1+1,0,none⟩ (.slice none 0 0)).setCell ⟨x+1+1+1,0,none⟩ (.int .i64 0)):=((Fr.refl (λk=>k=x+1+1∨k=x+1+1+1) w2).setCell ⟨x+1+1,0,none⟩ (λ_=>.inl rfl) _).setCell ⟨x+1+1+1,0,none⟩ (λ_=>.inr rfl) _;have r0:((w2.setCell ⟨x+1+1,0,none⟩ (.slice none 0 0)).setCell ⟨x+1+1+1,0,none⟩ (.int .i64 0)).cell? ⟨x+1+1,0,none⟩=some (.slice none 0 0):=(cell_of_row _ _ _ _ _ _ ((Below.heap_setCell _ _ _ _ (by simp)).trans (one_setCell HK2.out.1))).trans rfl;have r1:((w2.setCell ⟨x+1+1,0,none⟩ (.slice none 0 0)).setCell ⟨x+1+1+1,0,none⟩ (.int .i64 0)).cell? ⟨x+1+1+1,0,none⟩=some (.int .i64 0):=(cell_of_row _ _ _ _ _ _ (one_setCell ((Below.heap_setCell _ _ _ _ (by simp)).trans HK2.out.2))).trans rfl;refine⟨.tuple #[.slice none 0 0,.int .i64 0],by simp[results,results44,go_sem,r0,r1],rfl,?_⟩;exact HBW.out.trans (hf.below (B:=w.heap.size) HBW.out.size (λk hk e=>by have:=HX.out;omega))
end
section
open Go.RowKit
noncomputable def tf (p:Prop):Bool:=@decide p (Classical.propDecidable p)
theorem Cq {p:Prop}(h:p):tf p=true:=@decide_eq_true p (Classical.propDecidable p) h
theorem Cr {p:Prop}(h:¬p):tf p=false:=@decide_eq_false p (Classical.propDecidable p) h
theorem Cs {p:Prop}{b:Bool}(h:b=true↔p):tf p=b:=by
 cases b
 ·exact Cr (λhp=>by have:=h.2 hp;cases this)
 ·exact Cq (h.1 rfl)
section
variable {κ:Type} [DecidableEq κ]
end
end
section
open Go.RowKit
def TB (P:Prop)(e:Ending):Prop:=∃b:Bool,(b=true↔P)∧e = .returned (.bool b)
theorem TB.tf {P:Prop}{e:Ending}(h:TB P e):e = .returned (.bool (tf P)):=by
 obtain⟨b,hb,rfl⟩:=h;rw[Cs hb]
theorem TB.pos {P:Prop}{e:Ending}(hp:P)(h:TB P e):e = .returned (.bool true):=by rw[h.tf,Cq hp]
end
end Go.Proofs.YthjjgcfdhkhelaaGreatDoor
namespace Go.Proofs
section
open Go.Shelf Tryz
def Tryz.laysD103_ren:Go.Shelf.Ren:=⟨fun|103=>184|210=>264|206=>257|n=>n,fun|9=>9|4=>4|24=>235|3=>3|n=>n,fun|n=>n⟩
theorem Tryz.laysD103:Go.Proofs.Lays.n103 prog Tryz.laysD103_ren:={
 mixed:=by kernel_rfl
 f103:=qz func184
 f206:=qz func257
 f210:=qz func264
 t3:=underlying3
 a3:=isAgg3
 z3:=sizeOf3
 v3:=zeroValue3
 t4:=underlying4
 a4:=isAgg4
 z4:=sizeOf4
 v4:=zeroValue4
 t9:=underlying9
 a9:=isAgg9
 z9:=sizeOf9
 v9:=zeroValue9
 t24:=underlying235
 a24:=isAgg235
 z24:=sizeOf235
 v24:=zeroValue235 }
open Go.RowKit Go.Lib in
theorem Tryz.strings_CutPrefix (s p:ByteArray)(w:World) :
  Calls prog 184 #[.string s,.string p] w λe w'=>e = .returned (.tuple #[.string ⟨(Lib.trimPrefix s.data.toList p.data.toList).toArray⟩,.bool (Lib.hasPrefix s.data.toList p.data.toList)])∧w'=w:=Any.strings_CutPrefix Tryz.laysD103 s p w
def Tryz.laysD174_ren:Go.Shelf.Ren:=⟨fun|174=>182|247=>262|245=>263|287=>318|279=>319|280=>320|281=>321|282=>322|321=>394|322=>395|316=>396|171=>398|205=>397|243=>449|246=>172|283=>251|284=>252|285=>253|286=>254|129=>311|317=>310|318=>312|319=>313|320=>314|337=>388|338=>389|n=>n,fun|9=>9|3=>3|2=>2|75=>254|85=>260|4=>4|167=>410|5=>5|53=>184|175=>411|46=>246|168=>413|37=>178|0=>0|210=>472|21=>21|127=>355|145=>535|143=>533|171=>346|173=>349|212=>404|51=>182|20=>20|213=>405|232=>530|233=>531|80=>113|n=>n,fun|15=>2|16=>3|17=>0|18=>7|19=>8|n=>n⟩
theorem Tryz.laysD174:Go.Proofs.LaysC.n174 prog Tryz.laysD174_ren:={
 mixed:=by kernel_rfl
 f129:=qz func311
 f171:=qz func398
 f174:=qz func182
 f205:=qz func397
 f243:=qz func449
 f245:=qz func263
 f246:=qz func172
 f247:=qz func262
 f279:=qz func319
 f280:=qz func320
 f281:=qz func321
 f282:=qz func322
 f283:=qz func251
 f284:=qz func252
 f285:=qz func253
 f286:=qz func254
 f287:=qz func318
 f316:=qz func396
 f317:=qz func310
 f318:=qz func312
 f319:=qz func313
 f320:=qz func314
 f321:=qz func394
 f322:=qz func395
 f337:=qz func388
 f338:=qz func389
 t0:=underlying0
 a0:=isAgg0
 z0:=sizeOf0
 v0:=zeroValue0
 t2:=underlying2
 a2:=isAgg2
 z2:=sizeOf2
 v2:=zeroValue2
 t3:=underlying3
 a3:=isAgg3
 z3:=sizeOf3
 v3:=zeroValue3
 t4:=underlying4
 a4:=isAgg4
 z4:=sizeOf4
 v4:=zeroValue4
 t5:=underlying5
 a5:=isAgg5
 z5:=sizeOf5
 v5:=zeroValue5
 t9:=underlying9
 a9:=isAgg9
 z9:=sizeOf9
 v9:=zeroValue9
 t20:=underlying20
 a20:=isAgg20
 z20:=sizeOf20
 v20:=zeroValue20
 t21:=underlying21
 a21:=isAgg21
 z21:=sizeOf21
 v21:=zeroValue21
 t37:=underlying178
 a37:=isAgg178
 z37:=sizeOf178
 v37:=zeroValue178
 t46:=underlying246
 a46:=isAgg246
 z46:=sizeOf246
 v46:=zeroValue246
 t51:=underlying182
 a51:=isAgg182
 z51:=sizeOf182
 v51:=zeroValue182
 t53:=underlying184
 a53:=isAgg184
 z53:=sizeOf184
 v53:=zeroValue184
 t75:=underlying254
 a75:=isAgg254
 z75:=sizeOf254
 v75:=zeroValue254
 t85:=underlying260
 a85:=isAgg260
 z85:=sizeOf260
 v85:=zeroValue260
 t127:=underlying355
 a127:=isAgg355
 z127:=sizeOf355
 v127:=zeroValue355
 t143:=underlying533
 a143:=isAgg533
 z143:=sizeOf533
 v143:=zeroValue533
 t145:=underlying535
 a145:=isAgg535
 z145:=sizeOf535
 v145:=zeroValue535
 t167:=underlying410
 a167:=isAgg410
 z167:=sizeOf410
 v167:=zeroValue410
 t168:=underlying413
 a168:=isAgg413
 z168:=sizeOf413
 v168:=zeroValue413
 t171:=underlying346
 a171:=isAgg346
 z171:=sizeOf346
 v171:=zeroValue346
 t173:=underlying349
 a173:=isAgg349
 z173:=sizeOf349
 v173:=zeroValue349
 t175:=underlying411
 a175:=isAgg411
 z175:=sizeOf411
 v175:=zeroValue411
 t210:=underlying472
 a210:=isAgg472
 z210:=sizeOf472
 v210:=zeroValue472
 t212:=underlying404
 a212:=isAgg404
 z212:=sizeOf404
 v212:=zeroValue404
 t213:=underlying405
 a213:=isAgg405
 z213:=sizeOf405
 t232:=underlying530
 a232:=isAgg530
 z232:=sizeOf530
 v232:=zeroValue530
 t233:=underlying531
 a233:=isAgg531
 z233:=sizeOf531
 v233:=zeroValue531
 g15:=by kernel_rfl
 g16:=by kernel_rfl
 g17:=by kernel_rfl
 g18:=by kernel_rfl
 g19:=by kernel_rfl
 t80:=underlying113
 a80:=isAgg113
 z80:=sizeOf113
 v80:=zeroValue113
 i0:=by kernel_rfl
 i2:=by kernel_rfl
 i3:=by kernel_rfl
 i4:=by kernel_rfl
 i5:=by kernel_rfl
 i9:=by kernel_rfl
 i20:=by kernel_rfl
 i21:=by kernel_rfl
 i37:=by kernel_rfl
 i46:=by kernel_rfl
 i51:=by kernel_rfl
 i53:=by kernel_rfl
 i75:=by kernel_rfl
 i80:=by kernel_rfl
 i85:=by kernel_rfl
 i127:=by kernel_rfl
 i143:=by kernel_rfl
 i145:=by kernel_rfl
 i167:=by kernel_rfl
 i168:=by kernel_rfl
 i171:=by kernel_rfl
 i173:=by kernel_rfl
 i175:=by kernel_rfl
 i210:=by kernel_rfl
 i212:=by kernel_rfl
 i232:=by kernel_rfl
 i233:=by kernel_rfl
 m15:=by kernel_rfl
 m16:=by kernel_rfl
 m17:=by kernel_rfl
 m18:=by kernel_rfl
 m19:=by kernel_rfl
 c0:=by kernel_rfl
 c2:=by kernel_rfl
 c3:=by kernel_rfl
 c4:=by kernel_rfl
 c5:=by kernel_rfl
 c9:=by kernel_rfl
 c20:=by kernel_rfl
 c21:=by kernel_rfl
 c37:=by kernel_rfl
 c46:=by kernel_rfl
 c51:=by kernel_rfl
 c53:=by kernel_rfl
 c75:=by kernel_rfl
 c80:=by kernel_rfl
 c85:=by kernel_rfl
 c127:=by kernel_rfl
 c143:=by kernel_rfl
 c145:=by kernel_rfl
 c167:=by kernel_rfl
 c168:=by kernel_rfl
 c171:=by kernel_rfl
 c173:=by kernel_rfl
 c175:=by kernel_rfl
 c210:=by kernel_rfl
 c212:=by kernel_rfl
 c213:=by kernel_rfl
 c232:=by kernel_rfl
 c233:=by kernel_rfl }
end
end Go.Proofs
