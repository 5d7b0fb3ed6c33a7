/- The walk of stmt.May. -/
import Derived.Test.YtaeakdichkhjaaaGreatDoorQBa
import Derived.Test.YtaeakdichkhjaaaGreatDoorQAt
import Derived.Test.YtaeakdichkhjaaaGreatDoorQAs
import Derived.Deep.RegionHeld
set_option maxHeartbeats 16000000
open Go.Lib(hid)
namespace Go.Proofs.YtaeakdichkhjaaaGreatDoor
section
open Go.RowKit Go.Maps Go.ChangeMaps
theorem sN {κ:Type}[DecidableEq κ]{m:NMap κ}{k:κ}{n:Int}{e:κ×Int}(h:e∈jO m k n):e∈m∨e=(k,n):=by
 unfold jO at h
 split at h
 ·obtain⟨d,hd,rfl⟩:=List.mem_map.1 h
  split
  ·exact .inr rfl
  ·exact .inl hd
 ·rcases List.mem_append.1 h with h|h
  ·exact .inl h
  ·exact .inr (by simpa using h)
theorem sO {κ:Type}[DecidableEq κ]{m:NMap κ}(h:∀e∈m,0≤e.2∧e.2≤1125899906842624)(k:κ):0≤jN m k∧jN m k≤1125899906842624:=by
 unfold jN;cases hf:m.find? (λe=>e.1 == k)with
 | none=>simp
 | some d=>exact h d (List.mem_of_find?_eq_some hf)
def sP (l:List LinD):Prop:=∀x∈l,-9223372036854775808≤x.delta∧x.delta<9223372036854775808
set_option maxRecDepth 100000 in
theorem sQ (F:Nat→Prop)(w:World)(sv:Value)(l:List LinD)(h:LinsAt F w sv l)(hlen:l.length≤4398046511104)(hin:sP l) :
  Calls Tryz.prog 170 #[sv] w λe w'=>TB (j8 l) e∧Below w.heap.size w w':=by
 have hmm:=@run_makeMap Tryz.prog;obtain⟨a0,c0,rfl⟩:=h.shape;have HX:=hid h;have HIN:=hid hin;clear h hin;obtain⟨P,hP⟩:∃P,P=j8 l:=⟨_,rfl⟩;rw[← hP];have HP:=hid hP;clear hP
 go_enter Tryz.func170,Tryz.ntmps170
 go_wp2;obtain⟨mb,hmb⟩:∃mb,mb=w.heap.size:=⟨_,rfl⟩;obtain⟨W0,hW0⟩:∃W0,W0=w.alloc (.map #[] 0):=⟨_,rfl⟩;have HN0:=hid (show IsNM W0 qv mb []from by rw[hW0,hmb];exact pP w);have HB0:=hid (show Below w.heap.size w W0 from by rw[hW0];exact ke _ _);rw[← hW0,← hmb];have HMB:=hid hmb;clear hW0 hmm hmb
 go_loopw [4,12] (λs i wr=>∃(k:Nat) (seq:Int) (m:IMap),i = .int .i64 (k:Int)∧s = .int .i64 seq∧k≤l.length∧Hid (Below w.heap.size w wr)∧Hid (IsNM wr qv mb m)∧Hid (P↔j5 m seq (l.drop k))∧Hid (∀e∈m,0≤e.2∧e.2≤1125899906842624)) (λ_ i _=>l.length-(intOf i).toNat)
 case atStart=>exact⟨0,0,[],rfl,rfl,by omega,HB0,HN0,hid (by rw[HP.out];exact Iff.rfl),hid (λe h=>by cases h)⟩
 case round=>
  obtain⟨k,seq,m,rfl,rfl,hk,HB,HM,HG,HBD⟩:=hrel;by_cases hlt:k<l.length
  ·obtain⟨b,o,rfl,hFb,hbl,g0,g1,g2,g3,g4⟩:=LinD.at (HX.out.pure HB.out) k hlt
   have HGO:=hid (show P↔j4 m seq l[k]∧j5 (jO m (l[k]).acct (l[k]).balance) (l[k]).seq (l.drop (k+1))from by rw[HG.out,List.drop_eq_getElem_cons hlt];exact Iff.rfl);have hdel:=HIN.out _ (List.getElem_mem hlt);obtain⟨x,hx⟩:∃x,x=l[k]:=⟨_,rfl⟩;rw[← hx]at g0 g1 g2 g3 g4 HGO hdel;have hmg:=sO HBD.out x.acct;obtain⟨n,hn⟩:∃n,n=wr.heap.size:=⟨_,rfl⟩;obtain⟨W2,hW2⟩:∃W2,W2=wr.alloc (.cells #[.int .i64 x.acct,.int .i64 x.seq,.int .u8 x.kind,.int .i64 x.delta,.int .i64 x.balance] 115):=⟨_,rfl⟩;have hb2:Below wr.heap.size wr W2:=by rw[hW2];exact ke _ _
   have hm2:IsNM W2 qv mb m:=by rw[hW2];exact HM.out.kept ((Fr.refl (λ_=>False) wr).alloc _) (λh=>h)
   have hlk:=pK qx Tryz.underlying306 (λ_=>by kernel_rfl) hm2 x.acct;have k1:W2.heap[n]?=some (.cells #[.int .i64 x.acct,.int .i64 x.seq,.int .u8 x.kind,.int .i64 x.delta,.int .i64 x.balance] 115 (0,0)):=by rw[hW2,hn];exact heap_alloc_new _ _
   have HSZ:=hid (show W2.heap.size=n+1 from by rw[hW2,hn];simp);have HNM:=hid (show n≠mb from λe=>by have:=HM.out.lt;omega);obtain⟨S,hS⟩:∃S,S=js (jN m x.acct+x.delta):=⟨_,rfl⟩;have HMA:=hid (qI W2 (jN m x.acct) x.delta ⟨by omega,by omega⟩ hdel);rw[← hS]at HMA;have HSS:=hid hS;have HK1:=hid k1;have HB2:=hid hb2;have HM2:=hid hm2;unfold qv at hlk;rw[hW2]at hlk;clear hFb hx hdel hmg hb2 hm2 k1 hS
   go_wp2_with fail
   rw[← hW2]
   try rw[← hn]
   refine HMA.out.mono ?_;rintro e w3 ⟨rfl,hb3⟩;have HB3:=hid (HB.out.trans ((HB2.out.trans (hb3.mono HB2.out.size)).mono HB.out.size));have hk3:=(hb3.block _ (lt_of_block HK1.out)).trans HK1.out;have d0:w3.cell? ⟨n,0,none⟩=some (.int .i64 x.acct):=(cell_of_row _ _ _ _ _ _ hk3).trans rfl;have d1:w3.cell? ⟨n,1,none⟩=some (.int .i64 x.seq):=(cell_of_row _ _ _ _ _ _ hk3).trans rfl;have d2:w3.cell? ⟨n,2,none⟩=some (.int .u8 x.kind):=(cell_of_row _ _ _ _ _ _ hk3).trans rfl;have d3:w3.cell? ⟨n,3,none⟩=some (.int .i64 x.delta):=(cell_of_row _ _ _ _ _ _ hk3).trans rfl;have d4:w3.cell? ⟨n,4,none⟩=some (.int .i64 x.balance):=(cell_of_row _ _ _ _ _ _ hk3).trans rfl;have HM3:=hid (HM2.out.kept (Fr.pure (S:=λ_=>False) hb3) (λh=>h));obtain⟨WA,hWA⟩:∃WA,WA=w3.drew.alloc (.cells #[.int .u8 6,.int .u8 7,.int .u8 13,.int .u8 18,.int .u8 21] 5):=⟨_,rfl⟩;have fA:Fr (λ_=>False) w3 WA:=by rw[hWA];exact Fr.trans (b:=w3.drew) ⟨rfl,rfl,rfl,Nat.le_refl _,λ_ _ _=>rfl⟩ ((Fr.refl _ _).alloc _)
   have hkk:=fA.heapAt hk3 (λh=>h);have HA0:=hid (show WA.cell? ⟨n,0,none⟩=some (.int .i64 x.acct)from(cell_of_row _ _ _ _ _ _ hkk).trans rfl);have HA1:=hid (show WA.cell? ⟨n,1,none⟩=some (.int .i64 x.seq)from(cell_of_row _ _ _ _ _ _ hkk).trans rfl);have HYS:=hid (show(λw'=>w'.cell? ⟨n,2,none⟩=some (.int .u8 x.kind)∧w'.cell? ⟨n,3,none⟩=some (.int .i64 x.delta)∧w'.cell? ⟨n,4,none⟩=some (.int .i64 x.balance)) WA from⟨(cell_of_row _ _ _ _ _ _ hkk).trans rfl,(cell_of_row _ _ _ _ _ _ hkk).trans rfl,(cell_of_row _ _ _ _ _ _ hkk).trans rfl⟩);have HKC:=hid (show ∀i (h:i < [(6:Int),7,13,18,21].length),WA.cell? ⟨w3.heap.size,i,none⟩=some (.int .u8 [(6:Int),7,13,18,21][i])from by
    have hq:WA.heap[w3.heap.size]?=some (.cells #[.int .u8 6,.int .u8 7,.int .u8 13,.int .u8 18,.int .u8 21] 5 (0,0)):=by rw[hWA];exact heap_alloc_new _ _
    intro i hi
    match i,hi with
    | 0,_=>exact(cell_of_row _ _ _ _ _ _ hq).trans rfl
    | 1,_=>exact(cell_of_row _ _ _ _ _ _ hq).trans rfl
    | 2,_=>exact(cell_of_row _ _ _ _ _ _ hq).trans rfl
    | 3,_=>exact(cell_of_row _ _ _ _ _ _ hq).trans rfl
    | 4,_=>exact(cell_of_row _ _ _ _ _ _ hq).trans rfl)
   have HBA:=hid (show Below w.heap.size w WA from HB3.out.trans (fA.below (B:=w.heap.size) HB3.out.size (λ_ _ h=>h.elim)));have HMAA:=hid (HM3.out.kept fA (λh=>h));have HWA:=hid hWA;clear hb3 hk3 hlk hWA fA hkk hW2 hn g0 g1 g2 g3 g4;obtain⟨s1,s2⟩:=S;have q0:∀W,Calls Tryz.prog 231 #[.int .i64 x.seq] W λe w'=>TB (0≤x.seq∧x.seq<1048576) e∧W=w':=λW=>qb W x.seq;have HQ0:=hid q0;clear q0;obtain⟨e1,he1⟩:∃e:Bool,decide (x.acct<1)=e:=⟨_,rfl⟩;cases e1
   case true=>
    have HNO:=hid (show ¬P from λhp=>by have h:=(HGO.out.1 hp).1;unfold j4 ji at h;have:=of_decide_eq_true he1;omega);go_wp2;go_ret;exact⟨TB.no HNO.out,HB3.out⟩
   obtain⟨e2,he2⟩:∃e:Bool,decide (64<x.acct)=e:=⟨_,rfl⟩;cases e2
   case true=>
    have HNO:=hid (show ¬P from λhp=>by have h:=(HGO.out.1 hp).1;unfold j4 ji at h;have:=of_decide_eq_true he2;omega);go_wp2;go_ret;exact⟨TB.no HNO.out,HB3.out⟩
   by_cases hbt:0≤x.seq∧x.seq<1048576
   case neg=>
    have HNO:=hid (show ¬P from λhp=>hbt (HGO.out.1 hp).1.2.1);have HBT:=hid hbt;clear hbt
    go_wp2_with fail
    refine(HQ0.out _).mono ?_;rintro e w9 ⟨h9,rfl⟩;obtain rfl:=h9.neg HBT.out;clear h9;go_wp2;go_ret;exact⟨TB.no HNO.out,HB3.out⟩
   have HBT:=hid hbt;clear hbt;obtain⟨e3,he3⟩:∃e:Bool,decide (x.seq<seq)=e:=⟨_,rfl⟩;cases e3
   case true=>
    have HNO:=hid (show ¬P from λhp=>by have h:=(HGO.out.1 hp).1;unfold j4 ji at h;have:=of_decide_eq_true he3;omega)
    go_wp2_with fail
    refine(HQ0.out _).mono ?_;rintro e w9 ⟨h9,rfl⟩;obtain rfl:=h9.pos HBT.out;clear h9;go_wp2;go_ret;exact⟨TB.no HNO.out,HB3.out⟩
   go_wp2_with fail
   refine(HQ0.out _).mono ?_;rintro e w9 ⟨h9,rfl⟩;obtain rfl:=h9.pos HBT.out;clear h9
   go_wp2_with fail
   by_cases hki:x.kind∈[(6:Int),7,13,18,21]
   case neg=>
    have HKIN:=hid hki;have HNO:=hid (show ¬P from λhp=>hki (by have h:=(HGO.out.1 hp).1.2.2.2.1;simpa using h));clear hki;refine wp_region_held_drew (S:=(λw'=>w'.cell? ⟨n,2,none⟩=some (.int .u8 x.kind)∧w'.cell? ⟨n,3,none⟩=some (.int .i64 x.delta)∧w'.cell? ⟨n,4,none⟩=some (.int .i64 x.balance))) (by kernel_rfl) ⟨d2,d3,d4⟩ (λhHeld=>?_);refine wpAnyH_take (i:=1) (oi:=_) (v:=?_) (by simp only[List.getElem?_toArray,List.getElem?_cons_succ,List.getElem?_cons_zero];rfl) (by kernel_rfl) (by kernel_rfl) (by kernel_rfl) (by exact λ_ _ _ h=>h) (Or.inl ⟨by rfl,?_⟩) (by assumption) ?_;rotate_left
    ·(intro w hSw;(try dsimp only at hSw);go_simp;try with_reducible rfl)
    simp only[Act.put,List.setIfInBounds_toArray,List.set_cons_zero,List.set_cons_succ];refine wpAnyH_take (i:=2) (oi:=_) (v:=?_) (by simp only[List.getElem?_toArray,List.getElem?_cons_succ,List.getElem?_cons_zero];rfl) (by kernel_rfl) (by kernel_rfl) (by kernel_rfl) (by exact λ_ _ _ h=>h) (Or.inl ⟨by rfl,?_⟩) (by assumption) ?_;rotate_left
    ·(intro w hSw;(try dsimp only at hSw);go_simp;try with_reducible rfl)
    simp only[Act.put,List.setIfInBounds_toArray,List.set_cons_zero,List.set_cons_succ];refine wpAnyH_ready (rs:=[0]) (by kernel_rfl) (by simp) ?_;refine AllReadyH.cons (o:=_) (by simp only[List.getElem?_toArray,List.getElem?_cons_zero];rfl) (λK hK=>?_) AllReadyH.nil
    go_simp
    refine(sM _).mono ?_;rintro e w9 ⟨rfl,rfl⟩;have xS:=hHeld;clear hHeld;have xS2:=And.intro (xS.1) (xS.2);have hWA:=HWA.out;rw[← hWA];clear hWA;have yS:=HYS.out;clear xS xS2;refine hK.out _ _ yS (λhHeld=>?_);clear hK K;refine wpAnyH_ready (rs:=[3]) (by kernel_rfl) (by simp) ?_;refine AllReadyH.cons (o:=_) (by simp only[List.getElem?_toArray,List.getElem?_cons_succ,List.getElem?_cons_zero];rfl) (λK hK=>?_) AllReadyH.nil
    go_simp
    refine(sL _ _ 5 [6,7,13,18,21] HKC.out (by decide) x.kind).mono ?_;rintro e w9 ⟨h9,rfl⟩;obtain rfl:=h9.neg HKIN.out;have yS:=hHeld;clear hHeld h9;refine hK.out _ _ yS (λhHeld=>?_);clear hK K;refine wpAnyH_take (i:=4) (oi:=_) (v:=?_) (by simp only[List.getElem?_toArray,List.getElem?_cons_succ,List.getElem?_cons_zero];rfl) (by kernel_rfl) (by kernel_rfl) (by kernel_rfl) (by exact λ_ _ _ h=>h) (Or.inl ⟨by rfl,?_⟩) (by assumption) ?_;rotate_left
    ·(intro w hSw;(try dsimp only at hSw);go_simp;try with_reducible rfl)
    simp only[Act.put,List.setIfInBounds_toArray,List.set_cons_zero,List.set_cons_succ];refine wpAnyH_take (i:=5) (oi:=_) (v:=?_) (by simp only[List.getElem?_toArray,List.getElem?_cons_succ,List.getElem?_cons_zero];rfl) (by kernel_rfl) (by kernel_rfl) (by kernel_rfl) (by exact λ_ _ _ h=>h) (Or.inl ⟨by rfl,?_⟩) (by assumption) ?_;rotate_left
    ·(intro w hSw;(try dsimp only at hSw);go_simp;try with_reducible rfl)
    simp only[Act.put,List.setIfInBounds_toArray,List.set_cons_zero,List.set_cons_succ];refine wpAnyH_take (i:=6) (oi:=_) (v:=undef) (by simp only[List.getElem?_toArray,List.getElem?_cons_succ,List.getElem?_cons_zero];rfl) (by kernel_rfl) (by kernel_rfl) (by kernel_rfl) (by exact λ_ _ _ h=>h) (Or.inr ⟨by rfl,rfl⟩) (by assumption) ?_;simp only[Act.put,List.setIfInBounds_toArray,List.set_cons_zero,List.set_cons_succ];refine wpAnyH_take (i:=7) (oi:=_) (v:=undef) (by simp only[List.getElem?_toArray,List.getElem?_cons_succ,List.getElem?_cons_zero];rfl) (by kernel_rfl) (by kernel_rfl) (by kernel_rfl) (by exact λ_ _ _ h=>h) (Or.inr ⟨by rfl,rfl⟩) (by assumption) ?_;simp only[Act.put,List.setIfInBounds_toArray,List.set_cons_zero,List.set_cons_succ];refine wpAnyH_take (i:=8) (oi:=_) (v:=undef) (by simp only[List.getElem?_toArray,List.getElem?_cons_succ,List.getElem?_cons_zero];rfl) (by kernel_rfl) (by kernel_rfl) (by kernel_rfl) (by exact λ_ _ _ h=>h) (Or.inr ⟨by rfl,rfl⟩) (by assumption) ?_;simp only[Act.put,List.setIfInBounds_toArray,List.set_cons_zero,List.set_cons_succ];refine wpAnyH_take (i:=9) (oi:=_) (v:=?_) (by simp only[List.getElem?_toArray,List.getElem?_cons_succ,List.getElem?_cons_zero];rfl) (by kernel_rfl) (by kernel_rfl) (by kernel_rfl) (by exact λ_ _ _ h=>h) (Or.inl ⟨by rfl,?_⟩) (by assumption) ?_;rotate_left
    ·(intro w hSw;(try dsimp only at hSw);go_simp;try with_reducible rfl)
    simp only[Act.put,List.setIfInBounds_toArray,List.set_cons_zero,List.set_cons_succ];refine wpAnyH_take (i:=10) (oi:=_) (v:=?_) (by simp only[List.getElem?_toArray,List.getElem?_cons_succ,List.getElem?_cons_zero];rfl) (by kernel_rfl) (by kernel_rfl) (by kernel_rfl) (by exact λ_ _ _ h=>h) (Or.inl ⟨by rfl,?_⟩) (by assumption) ?_;rotate_left
    ·(intro w hSw;(try dsimp only at hSw);go_simp;try with_reducible rfl)
    simp only[Act.put,List.setIfInBounds_toArray,List.set_cons_zero,List.set_cons_succ];refine wpAnyH_take (i:=11) (oi:=_) (v:=undef) (by simp only[List.getElem?_toArray,List.getElem?_cons_succ,List.getElem?_cons_zero];rfl) (by kernel_rfl) (by kernel_rfl) (by kernel_rfl) (by exact λ_ _ _ h=>h) (Or.inr ⟨by rfl,rfl⟩) (by assumption) ?_;simp only[Act.put,List.setIfInBounds_toArray,List.set_cons_zero,List.set_cons_succ];refine wpAnyH_take (i:=12) (oi:=_) (v:=undef) (by simp only[List.getElem?_toArray,List.getElem?_cons_succ,List.getElem?_cons_zero];rfl) (by kernel_rfl) (by kernel_rfl) (by kernel_rfl) (by exact λ_ _ _ h=>h) (Or.inr ⟨by rfl,rfl⟩) (by assumption) ?_;simp only[Act.put,List.setIfInBounds_toArray,List.set_cons_zero,List.set_cons_succ];refine wpAnyH_take (i:=13) (oi:=_) (v:=undef) (by simp only[List.getElem?_toArray,List.getElem?_cons_succ,List.getElem?_cons_zero];rfl) (by kernel_rfl) (by kernel_rfl) (by kernel_rfl) (by exact λ_ _ _ h=>h) (Or.inr ⟨by rfl,rfl⟩) (by assumption) ?_;simp only[Act.put,List.setIfInBounds_toArray,List.set_cons_zero,List.set_cons_succ];refine wpAnyH_take (i:=14) (oi:=_) (v:=undef) (by simp only[List.getElem?_toArray,List.getElem?_cons_succ,List.getElem?_cons_zero];rfl) (by kernel_rfl) (by kernel_rfl) (by kernel_rfl) (by exact λ_ _ _ h=>h) (Or.inr ⟨by rfl,rfl⟩) (by assumption) ?_;simp only[Act.put,List.setIfInBounds_toArray,List.set_cons_zero,List.set_cons_succ];refine wpAnyH_take (i:=15) (oi:=_) (v:=?_) (by simp only[List.getElem?_toArray,List.getElem?_cons_succ,List.getElem?_cons_zero];rfl) (by kernel_rfl) (by kernel_rfl) (by kernel_rfl) (by exact λ_ _ _ h=>h) (Or.inl ⟨by rfl,?_⟩) (by assumption) ?_;rotate_left
    ·(intro w hSw;(try dsimp only at hSw);go_simp;try with_reducible rfl)
    simp only[Act.put,List.setIfInBounds_toArray,List.set_cons_zero,List.set_cons_succ];refine wpAnyH_take (i:=16) (oi:=_) (v:=?_) (by simp only[List.getElem?_toArray,List.getElem?_cons_succ,List.getElem?_cons_zero];rfl) (by kernel_rfl) (by kernel_rfl) (by kernel_rfl) (by exact λ_ _ _ h=>h) (Or.inl ⟨by rfl,?_⟩) (by assumption) ?_;rotate_left
    ·(intro w hSw;(try dsimp only at hSw);go_simp;try with_reducible rfl)
    simp only[Act.put,List.setIfInBounds_toArray,List.set_cons_zero,List.set_cons_succ];refine wpAnyH_done (by kernel_rfl) ?_ _;go_wp2;go_ret;exact⟨TB.no HNO.out,HBA.out⟩
   have HKIN:=hid hki;clear hki;obtain⟨dz,hdz⟩:∃e:Bool,(x.delta == 0)=e:=⟨_,rfl⟩;cases dz
   case true=>
    have HNO:=hid (show ¬P from λhp=>(HGO.out.1 hp).1.2.2.2.2.1 (by simpa using hdz));refine wp_region_held_drew (S:=(λw'=>w'.cell? ⟨n,2,none⟩=some (.int .u8 x.kind)∧w'.cell? ⟨n,3,none⟩=some (.int .i64 x.delta)∧w'.cell? ⟨n,4,none⟩=some (.int .i64 x.balance))) (by kernel_rfl) ⟨d2,d3,d4⟩ (λhHeld=>?_);refine wpAnyH_take (i:=1) (oi:=_) (v:=?_) (by simp only[List.getElem?_toArray,List.getElem?_cons_succ,List.getElem?_cons_zero];rfl) (by kernel_rfl) (by kernel_rfl) (by kernel_rfl) (by exact λ_ _ _ h=>h) (Or.inl ⟨by rfl,?_⟩) (by assumption) ?_;rotate_left
    ·(intro w hSw;(try dsimp only at hSw);go_simp;try with_reducible rfl)
    simp only[Act.put,List.setIfInBounds_toArray,List.set_cons_zero,List.set_cons_succ];refine wpAnyH_take (i:=2) (oi:=_) (v:=?_) (by simp only[List.getElem?_toArray,List.getElem?_cons_succ,List.getElem?_cons_zero];rfl) (by kernel_rfl) (by kernel_rfl) (by kernel_rfl) (by exact λ_ _ _ h=>h) (Or.inl ⟨by rfl,?_⟩) (by assumption) ?_;rotate_left
    ·(intro w hSw;(try dsimp only at hSw);go_simp;try with_reducible rfl)
    simp only[Act.put,List.setIfInBounds_toArray,List.set_cons_zero,List.set_cons_succ];refine wpAnyH_ready (rs:=[0]) (by kernel_rfl) (by simp) ?_;refine AllReadyH.cons (o:=_) (by simp only[List.getElem?_toArray,List.getElem?_cons_zero];rfl) (λK hK=>?_) AllReadyH.nil
    go_simp
    refine(sM _).mono ?_;rintro e w9 ⟨rfl,rfl⟩;have xS:=hHeld;clear hHeld;have xS2:=And.intro (xS.1) (xS.2);have hWA:=HWA.out;rw[← hWA];clear hWA;have yS:=HYS.out;clear xS xS2;refine hK.out _ _ yS (λhHeld=>?_);clear hK K;refine wpAnyH_ready (rs:=[3]) (by kernel_rfl) (by simp) ?_;refine AllReadyH.cons (o:=_) (by simp only[List.getElem?_toArray,List.getElem?_cons_succ,List.getElem?_cons_zero];rfl) (λK hK=>?_) AllReadyH.nil
    go_simp
    refine(sL _ _ 5 [6,7,13,18,21] HKC.out (by decide) x.kind).mono ?_;rintro e w9 ⟨h9,rfl⟩;obtain rfl:=h9.pos HKIN.out;have yS:=hHeld;clear hHeld h9;refine hK.out _ _ yS (λhHeld=>?_);clear hK K;refine wpAnyH_take (i:=4) (oi:=_) (v:=?_) (by simp only[List.getElem?_toArray,List.getElem?_cons_succ,List.getElem?_cons_zero];rfl) (by kernel_rfl) (by kernel_rfl) (by kernel_rfl) (by exact λ_ _ _ h=>h) (Or.inl ⟨by rfl,?_⟩) (by assumption) ?_;rotate_left
    ·(intro w hSw;(try dsimp only at hSw);go_simp;try with_reducible rfl)
    simp only[Act.put,List.setIfInBounds_toArray,List.set_cons_zero,List.set_cons_succ];refine wpAnyH_take (i:=5) (oi:=_) (v:=?_) (by simp only[List.getElem?_toArray,List.getElem?_cons_succ,List.getElem?_cons_zero];rfl) (by kernel_rfl) (by kernel_rfl) (by kernel_rfl) (by exact λ_ _ _ h=>h) (Or.inl ⟨by rfl,?_⟩) (by assumption) ?_;rotate_left
    ·(intro w hSw;(try dsimp only at hSw);go_simp;try with_reducible rfl)
    simp only[Act.put,List.setIfInBounds_toArray,List.set_cons_zero,List.set_cons_succ];refine wpAnyH_take (i:=6) (oi:=_) (v:=?_) (by simp only[List.getElem?_toArray,List.getElem?_cons_succ,List.getElem?_cons_zero];rfl) (by kernel_rfl) (by kernel_rfl) (by kernel_rfl) (by exact λ_ _ _ h=>h) (Or.inl ⟨by rfl,?_⟩) (by assumption) ?_;rotate_left
    ·(intro w hSw;(try dsimp only at hSw);go_simp;try with_reducible rfl)
    simp only[Act.put,List.setIfInBounds_toArray,List.set_cons_zero,List.set_cons_succ];refine wpAnyH_take (i:=7) (oi:=_) (v:=?_) (by simp only[List.getElem?_toArray,List.getElem?_cons_succ,List.getElem?_cons_zero];rfl) (by kernel_rfl) (by kernel_rfl) (by kernel_rfl) (by exact λ_ _ _ h=>h) (Or.inl ⟨by rfl,?_⟩) (by assumption) ?_;rotate_left
    ·(intro w hSw;(try dsimp only at hSw);go_simp;try with_reducible rfl)
    simp only[Act.put,List.setIfInBounds_toArray,List.set_cons_zero,List.set_cons_succ];refine wpAnyH_take (i:=8) (oi:=_) (v:=?_) (by simp only[List.getElem?_toArray,List.getElem?_cons_succ,List.getElem?_cons_zero];rfl) (by kernel_rfl) (by kernel_rfl) (by kernel_rfl) (by exact λ_ _ _ h=>h) (Or.inl ⟨by rfl,?_⟩) (by assumption) ?_;rotate_left
    ·(intro w hSw;(try dsimp only at hSw);go_simp;try with_reducible rfl)
    simp only[Act.put,List.setIfInBounds_toArray,List.set_cons_zero,List.set_cons_succ];refine wpAnyH_take (i:=9) (oi:=_) (v:=?_) (by simp only[List.getElem?_toArray,List.getElem?_cons_succ,List.getElem?_cons_zero];rfl) (by kernel_rfl) (by kernel_rfl) (by kernel_rfl) (by exact λ_ _ _ h=>h) (Or.inl ⟨by rfl,?_⟩) (by assumption) ?_;rotate_left
    ·(intro w hSw;(try dsimp only at hSw);go_simp;try with_reducible rfl)
    simp only[Act.put,List.setIfInBounds_toArray,List.set_cons_zero,List.set_cons_succ];refine wpAnyH_take (i:=10) (oi:=_) (v:=?_) (by simp only[List.getElem?_toArray,List.getElem?_cons_succ,List.getElem?_cons_zero];rfl) (by kernel_rfl) (by kernel_rfl) (by kernel_rfl) (by exact λ_ _ _ h=>h) (Or.inl ⟨by rfl,?_⟩) (by assumption) ?_;rotate_left
    ·(intro w hSw;(try dsimp only at hSw);go_simp;try with_reducible rfl)
    simp only[Act.put,List.setIfInBounds_toArray,List.set_cons_zero,List.set_cons_succ];refine wpAnyH_take (i:=11) (oi:=_) (v:=undef) (by simp only[List.getElem?_toArray,List.getElem?_cons_succ,List.getElem?_cons_zero];rfl) (by kernel_rfl) (by kernel_rfl) (by kernel_rfl) (by exact λ_ _ _ h=>h) (Or.inr ⟨by rfl,rfl⟩) (by assumption) ?_;simp only[Act.put,List.setIfInBounds_toArray,List.set_cons_zero,List.set_cons_succ];refine wpAnyH_take (i:=12) (oi:=_) (v:=undef) (by simp only[List.getElem?_toArray,List.getElem?_cons_succ,List.getElem?_cons_zero];rfl) (by kernel_rfl) (by kernel_rfl) (by kernel_rfl) (by exact λ_ _ _ h=>h) (Or.inr ⟨by rfl,rfl⟩) (by assumption) ?_;simp only[Act.put,List.setIfInBounds_toArray,List.set_cons_zero,List.set_cons_succ];refine wpAnyH_take (i:=13) (oi:=_) (v:=undef) (by simp only[List.getElem?_toArray,List.getElem?_cons_succ,List.getElem?_cons_zero];rfl) (by kernel_rfl) (by kernel_rfl) (by kernel_rfl) (by exact λ_ _ _ h=>h) (Or.inr ⟨by rfl,rfl⟩) (by assumption) ?_;simp only[Act.put,List.setIfInBounds_toArray,List.set_cons_zero,List.set_cons_succ];refine wpAnyH_take (i:=14) (oi:=_) (v:=undef) (by simp only[List.getElem?_toArray,List.getElem?_cons_succ,List.getElem?_cons_zero];rfl) (by kernel_rfl) (by kernel_rfl) (by kernel_rfl) (by exact λ_ _ _ h=>h) (Or.inr ⟨by rfl,rfl⟩) (by assumption) ?_;simp only[Act.put,List.setIfInBounds_toArray,List.set_cons_zero,List.set_cons_succ];refine wpAnyH_take (i:=15) (oi:=_) (v:=?_) (by simp only[List.getElem?_toArray,List.getElem?_cons_succ,List.getElem?_cons_zero];rfl) (by kernel_rfl) (by kernel_rfl) (by kernel_rfl) (by exact λ_ _ _ h=>h) (Or.inl ⟨by rfl,?_⟩) (by assumption) ?_;rotate_left
    ·(intro w hSw;(try dsimp only at hSw);go_simp;try with_reducible rfl)
    simp only[Act.put,List.setIfInBounds_toArray,List.set_cons_zero,List.set_cons_succ];refine wpAnyH_take (i:=16) (oi:=_) (v:=?_) (by simp only[List.getElem?_toArray,List.getElem?_cons_succ,List.getElem?_cons_zero];rfl) (by kernel_rfl) (by kernel_rfl) (by kernel_rfl) (by exact λ_ _ _ h=>h) (Or.inl ⟨by rfl,?_⟩) (by assumption) ?_;rotate_left
    ·(intro w hSw;(try dsimp only at hSw);go_simp;try with_reducible rfl)
    simp only[Act.put,List.setIfInBounds_toArray,List.set_cons_zero,List.set_cons_succ];refine wpAnyH_done (by kernel_rfl) ?_ _;go_wp2;go_ret;exact⟨TB.no HNO.out,HBA.out⟩
   by_cases hft:0≤x.balance∧x.balance≤1125899906842624
   case neg=>
    have HNO:=hid (show ¬P from λhp=>hft (HGO.out.1 hp).1.2.2.2.2.2.1);have HFIT:=hid hft;clear hft;refine wp_region_held_drew (S:=(λw'=>w'.cell? ⟨n,2,none⟩=some (.int .u8 x.kind)∧w'.cell? ⟨n,3,none⟩=some (.int .i64 x.delta)∧w'.cell? ⟨n,4,none⟩=some (.int .i64 x.balance))) (by kernel_rfl) ⟨d2,d3,d4⟩ (λhHeld=>?_);refine wpAnyH_take (i:=1) (oi:=_) (v:=?_) (by simp only[List.getElem?_toArray,List.getElem?_cons_succ,List.getElem?_cons_zero];rfl) (by kernel_rfl) (by kernel_rfl) (by kernel_rfl) (by exact λ_ _ _ h=>h) (Or.inl ⟨by rfl,?_⟩) (by assumption) ?_;rotate_left
    ·(intro w hSw;(try dsimp only at hSw);go_simp;try with_reducible rfl)
    simp only[Act.put,List.setIfInBounds_toArray,List.set_cons_zero,List.set_cons_succ];refine wpAnyH_take (i:=2) (oi:=_) (v:=?_) (by simp only[List.getElem?_toArray,List.getElem?_cons_succ,List.getElem?_cons_zero];rfl) (by kernel_rfl) (by kernel_rfl) (by kernel_rfl) (by exact λ_ _ _ h=>h) (Or.inl ⟨by rfl,?_⟩) (by assumption) ?_;rotate_left
    ·(intro w hSw;(try dsimp only at hSw);go_simp;try with_reducible rfl)
    simp only[Act.put,List.setIfInBounds_toArray,List.set_cons_zero,List.set_cons_succ];refine wpAnyH_ready (rs:=[0]) (by kernel_rfl) (by simp) ?_;refine AllReadyH.cons (o:=_) (by simp only[List.getElem?_toArray,List.getElem?_cons_zero];rfl) (λK hK=>?_) AllReadyH.nil
    go_simp
    refine(sM _).mono ?_;rintro e w9 ⟨rfl,rfl⟩;have xS:=hHeld;clear hHeld;have xS2:=And.intro (xS.1) (xS.2);have hWA:=HWA.out;rw[← hWA];clear hWA;have yS:=HYS.out;clear xS xS2;refine hK.out _ _ yS (λhHeld=>?_);clear hK K;refine wpAnyH_ready (rs:=[3]) (by kernel_rfl) (by simp) ?_;refine AllReadyH.cons (o:=_) (by simp only[List.getElem?_toArray,List.getElem?_cons_succ,List.getElem?_cons_zero];rfl) (λK hK=>?_) AllReadyH.nil
    go_simp
    refine(sL _ _ 5 [6,7,13,18,21] HKC.out (by decide) x.kind).mono ?_;rintro e w9 ⟨h9,rfl⟩;obtain rfl:=h9.pos HKIN.out;have yS:=hHeld;clear hHeld h9;refine hK.out _ _ yS (λhHeld=>?_);clear hK K;refine wpAnyH_take (i:=4) (oi:=_) (v:=?_) (by simp only[List.getElem?_toArray,List.getElem?_cons_succ,List.getElem?_cons_zero];rfl) (by kernel_rfl) (by kernel_rfl) (by kernel_rfl) (by exact λ_ _ _ h=>h) (Or.inl ⟨by rfl,?_⟩) (by assumption) ?_;rotate_left
    ·(intro w hSw;(try dsimp only at hSw);go_simp;try with_reducible rfl)
    simp only[Act.put,List.setIfInBounds_toArray,List.set_cons_zero,List.set_cons_succ];refine wpAnyH_take (i:=5) (oi:=_) (v:=?_) (by simp only[List.getElem?_toArray,List.getElem?_cons_succ,List.getElem?_cons_zero];rfl) (by kernel_rfl) (by kernel_rfl) (by kernel_rfl) (by exact λ_ _ _ h=>h) (Or.inl ⟨by rfl,?_⟩) (by assumption) ?_;rotate_left
    ·(intro w hSw;(try dsimp only at hSw);go_simp;try with_reducible rfl)
    simp only[Act.put,List.setIfInBounds_toArray,List.set_cons_zero,List.set_cons_succ];refine wpAnyH_take (i:=6) (oi:=_) (v:=?_) (by simp only[List.getElem?_toArray,List.getElem?_cons_succ,List.getElem?_cons_zero];rfl) (by kernel_rfl) (by kernel_rfl) (by kernel_rfl) (by exact λ_ _ _ h=>h) (Or.inl ⟨by rfl,?_⟩) (by assumption) ?_;rotate_left
    ·(intro w hSw;(try dsimp only at hSw);go_simp;try with_reducible rfl)
    simp only[Act.put,List.setIfInBounds_toArray,List.set_cons_zero,List.set_cons_succ];refine wpAnyH_take (i:=7) (oi:=_) (v:=?_) (by simp only[List.getElem?_toArray,List.getElem?_cons_succ,List.getElem?_cons_zero];rfl) (by kernel_rfl) (by kernel_rfl) (by kernel_rfl) (by exact λ_ _ _ h=>h) (Or.inl ⟨by rfl,?_⟩) (by assumption) ?_;rotate_left
    ·(intro w hSw;(try dsimp only at hSw);go_simp;try with_reducible rfl)
    simp only[Act.put,List.setIfInBounds_toArray,List.set_cons_zero,List.set_cons_succ];refine wpAnyH_take (i:=8) (oi:=_) (v:=?_) (by simp only[List.getElem?_toArray,List.getElem?_cons_succ,List.getElem?_cons_zero];rfl) (by kernel_rfl) (by kernel_rfl) (by kernel_rfl) (by exact λ_ _ _ h=>h) (Or.inl ⟨by rfl,?_⟩) (by assumption) ?_;rotate_left
    ·(intro w hSw;(try dsimp only at hSw);go_simp;try with_reducible rfl)
    simp only[Act.put,List.setIfInBounds_toArray,List.set_cons_zero,List.set_cons_succ];refine wpAnyH_take (i:=9) (oi:=_) (v:=?_) (by simp only[List.getElem?_toArray,List.getElem?_cons_succ,List.getElem?_cons_zero];rfl) (by kernel_rfl) (by kernel_rfl) (by kernel_rfl) (by exact λ_ _ _ h=>h) (Or.inl ⟨by rfl,?_⟩) (by assumption) ?_;rotate_left
    ·(intro w hSw;(try dsimp only at hSw);go_simp;try with_reducible rfl)
    simp only[Act.put,List.setIfInBounds_toArray,List.set_cons_zero,List.set_cons_succ];refine wpAnyH_take (i:=10) (oi:=_) (v:=?_) (by simp only[List.getElem?_toArray,List.getElem?_cons_succ,List.getElem?_cons_zero];rfl) (by kernel_rfl) (by kernel_rfl) (by kernel_rfl) (by exact λ_ _ _ h=>h) (Or.inl ⟨by rfl,?_⟩) (by assumption) ?_;rotate_left
    ·(intro w hSw;(try dsimp only at hSw);go_simp;try with_reducible rfl)
    simp only[Act.put,List.setIfInBounds_toArray,List.set_cons_zero,List.set_cons_succ];refine wpAnyH_take (i:=11) (oi:=_) (v:=?_) (by simp only[List.getElem?_toArray,List.getElem?_cons_succ,List.getElem?_cons_zero];rfl) (by kernel_rfl) (by kernel_rfl) (by kernel_rfl) (by exact λ_ _ _ h=>h) (Or.inl ⟨by rfl,?_⟩) (by assumption) ?_;rotate_left
    ·(intro w hSw;(try dsimp only at hSw);go_simp;try with_reducible rfl)
    simp only[Act.put,List.setIfInBounds_toArray,List.set_cons_zero,List.set_cons_succ];refine wpAnyH_take (i:=12) (oi:=_) (v:=?_) (by simp only[List.getElem?_toArray,List.getElem?_cons_succ,List.getElem?_cons_zero];rfl) (by kernel_rfl) (by kernel_rfl) (by kernel_rfl) (by exact λ_ _ _ h=>h) (Or.inl ⟨by rfl,?_⟩) (by assumption) ?_;rotate_left
    ·(intro w hSw;(try dsimp only at hSw);go_simp;try with_reducible rfl)
    simp only[Act.put,List.setIfInBounds_toArray,List.set_cons_zero,List.set_cons_succ];refine wpAnyH_ready (rs:=[13]) (by kernel_rfl) (by simp) ?_;refine AllReadyH.cons (o:=_) (by simp only[List.getElem?_toArray,List.getElem?_cons_succ,List.getElem?_cons_zero];rfl) (λK hK=>?_) AllReadyH.nil
    go_simp
    refine(qd _ x.balance).mono ?_;rintro e w9 ⟨h9,rfl⟩;obtain rfl:=h9.neg HFIT.out;have yS:=hHeld;clear hHeld h9;refine hK.out _ _ yS (λhHeld=>?_);clear hK K;refine wpAnyH_take (i:=14) (oi:=_) (v:=?_) (by simp only[List.getElem?_toArray,List.getElem?_cons_succ,List.getElem?_cons_zero];rfl) (by kernel_rfl) (by kernel_rfl) (by kernel_rfl) (by exact λ_ _ _ h=>h) (Or.inl ⟨by rfl,?_⟩) (by assumption) ?_;rotate_left
    ·(intro w hSw;(try dsimp only at hSw);go_simp;try with_reducible rfl)
    simp only[Act.put,List.setIfInBounds_toArray,List.set_cons_zero,List.set_cons_succ];refine wpAnyH_take (i:=15) (oi:=_) (v:=?_) (by simp only[List.getElem?_toArray,List.getElem?_cons_succ,List.getElem?_cons_zero];rfl) (by kernel_rfl) (by kernel_rfl) (by kernel_rfl) (by exact λ_ _ _ h=>h) (Or.inl ⟨by rfl,?_⟩) (by assumption) ?_;rotate_left
    ·(intro w hSw;(try dsimp only at hSw);go_simp;try with_reducible rfl)
    simp only[Act.put,List.setIfInBounds_toArray,List.set_cons_zero,List.set_cons_succ];refine wpAnyH_take (i:=16) (oi:=_) (v:=?_) (by simp only[List.getElem?_toArray,List.getElem?_cons_succ,List.getElem?_cons_zero];rfl) (by kernel_rfl) (by kernel_rfl) (by kernel_rfl) (by exact λ_ _ _ h=>h) (Or.inl ⟨by rfl,?_⟩) (by assumption) ?_;rotate_left
    ·(intro w hSw;(try dsimp only at hSw);go_simp;try with_reducible rfl)
    simp only[Act.put,List.setIfInBounds_toArray,List.set_cons_zero,List.set_cons_succ];refine wpAnyH_done (by kernel_rfl) ?_ _;go_wp2;go_ret;exact⟨TB.no HNO.out,HBA.out⟩
   have HFIT:=hid hft;clear hft;refine wp_region_held_drew (S:=(λw'=>w'.cell? ⟨n,2,none⟩=some (.int .u8 x.kind)∧w'.cell? ⟨n,3,none⟩=some (.int .i64 x.delta)∧w'.cell? ⟨n,4,none⟩=some (.int .i64 x.balance))) (by kernel_rfl) ⟨d2,d3,d4⟩ (λhHeld=>?_);refine wpAnyH_take (i:=1) (oi:=_) (v:=?_) (by simp only[List.getElem?_toArray,List.getElem?_cons_succ,List.getElem?_cons_zero];rfl) (by kernel_rfl) (by kernel_rfl) (by kernel_rfl) (by exact λ_ _ _ h=>h) (Or.inl ⟨by rfl,?_⟩) (by assumption) ?_;rotate_left
   ·(intro w hSw;(try dsimp only at hSw);go_simp;try with_reducible rfl)
   simp only[Act.put,List.setIfInBounds_toArray,List.set_cons_zero,List.set_cons_succ];refine wpAnyH_take (i:=2) (oi:=_) (v:=?_) (by simp only[List.getElem?_toArray,List.getElem?_cons_succ,List.getElem?_cons_zero];rfl) (by kernel_rfl) (by kernel_rfl) (by kernel_rfl) (by exact λ_ _ _ h=>h) (Or.inl ⟨by rfl,?_⟩) (by assumption) ?_;rotate_left
   ·(intro w hSw;(try dsimp only at hSw);go_simp;try with_reducible rfl)
   simp only[Act.put,List.setIfInBounds_toArray,List.set_cons_zero,List.set_cons_succ];refine wpAnyH_ready (rs:=[0]) (by kernel_rfl) (by simp) ?_;refine AllReadyH.cons (o:=_) (by simp only[List.getElem?_toArray,List.getElem?_cons_zero];rfl) (λK hK=>?_) AllReadyH.nil
   go_simp
   refine(sM _).mono ?_;rintro e w9 ⟨rfl,rfl⟩;have xS:=hHeld;clear hHeld;have xS2:=And.intro (xS.1) (xS.2);have hWA:=HWA.out;rw[← hWA];clear hWA;have yS:=HYS.out;clear xS xS2;refine hK.out _ _ yS (λhHeld=>?_);clear hK K;refine wpAnyH_ready (rs:=[3]) (by kernel_rfl) (by simp) ?_;refine AllReadyH.cons (o:=_) (by simp only[List.getElem?_toArray,List.getElem?_cons_succ,List.getElem?_cons_zero];rfl) (λK hK=>?_) AllReadyH.nil
   go_simp
   refine(sL _ _ 5 [6,7,13,18,21] HKC.out (by decide) x.kind).mono ?_;rintro e w9 ⟨h9,rfl⟩;obtain rfl:=h9.pos HKIN.out;have yS:=hHeld;clear hHeld h9;refine hK.out _ _ yS (λhHeld=>?_);clear hK K;refine wpAnyH_take (i:=4) (oi:=_) (v:=?_) (by simp only[List.getElem?_toArray,List.getElem?_cons_succ,List.getElem?_cons_zero];rfl) (by kernel_rfl) (by kernel_rfl) (by kernel_rfl) (by exact λ_ _ _ h=>h) (Or.inl ⟨by rfl,?_⟩) (by assumption) ?_;rotate_left
   ·(intro w hSw;(try dsimp only at hSw);go_simp;try with_reducible rfl)
   simp only[Act.put,List.setIfInBounds_toArray,List.set_cons_zero,List.set_cons_succ];refine wpAnyH_take (i:=5) (oi:=_) (v:=?_) (by simp only[List.getElem?_toArray,List.getElem?_cons_succ,List.getElem?_cons_zero];rfl) (by kernel_rfl) (by kernel_rfl) (by kernel_rfl) (by exact λ_ _ _ h=>h) (Or.inl ⟨by rfl,?_⟩) (by assumption) ?_;rotate_left
   ·(intro w hSw;(try dsimp only at hSw);go_simp;try with_reducible rfl)
   simp only[Act.put,List.setIfInBounds_toArray,List.set_cons_zero,List.set_cons_succ];refine wpAnyH_take (i:=6) (oi:=_) (v:=?_) (by simp only[List.getElem?_toArray,List.getElem?_cons_succ,List.getElem?_cons_zero];rfl) (by kernel_rfl) (by kernel_rfl) (by kernel_rfl) (by exact λ_ _ _ h=>h) (Or.inl ⟨by rfl,?_⟩) (by assumption) ?_;rotate_left
   ·(intro w hSw;(try dsimp only at hSw);go_simp;try with_reducible rfl)
   simp only[Act.put,List.setIfInBounds_toArray,List.set_cons_zero,List.set_cons_succ];refine wpAnyH_take (i:=7) (oi:=_) (v:=?_) (by simp only[List.getElem?_toArray,List.getElem?_cons_succ,List.getElem?_cons_zero];rfl) (by kernel_rfl) (by kernel_rfl) (by kernel_rfl) (by exact λ_ _ _ h=>h) (Or.inl ⟨by rfl,?_⟩) (by assumption) ?_;rotate_left
   ·(intro w hSw;(try dsimp only at hSw);go_simp;try with_reducible rfl)
   simp only[Act.put,List.setIfInBounds_toArray,List.set_cons_zero,List.set_cons_succ];refine wpAnyH_take (i:=8) (oi:=_) (v:=?_) (by simp only[List.getElem?_toArray,List.getElem?_cons_succ,List.getElem?_cons_zero];rfl) (by kernel_rfl) (by kernel_rfl) (by kernel_rfl) (by exact λ_ _ _ h=>h) (Or.inl ⟨by rfl,?_⟩) (by assumption) ?_;rotate_left
   ·(intro w hSw;(try dsimp only at hSw);go_simp;try with_reducible rfl)
   simp only[Act.put,List.setIfInBounds_toArray,List.set_cons_zero,List.set_cons_succ];refine wpAnyH_take (i:=9) (oi:=_) (v:=?_) (by simp only[List.getElem?_toArray,List.getElem?_cons_succ,List.getElem?_cons_zero];rfl) (by kernel_rfl) (by kernel_rfl) (by kernel_rfl) (by exact λ_ _ _ h=>h) (Or.inl ⟨by rfl,?_⟩) (by assumption) ?_;rotate_left
   ·(intro w hSw;(try dsimp only at hSw);go_simp;try with_reducible rfl)
   simp only[Act.put,List.setIfInBounds_toArray,List.set_cons_zero,List.set_cons_succ];refine wpAnyH_take (i:=10) (oi:=_) (v:=?_) (by simp only[List.getElem?_toArray,List.getElem?_cons_succ,List.getElem?_cons_zero];rfl) (by kernel_rfl) (by kernel_rfl) (by kernel_rfl) (by exact λ_ _ _ h=>h) (Or.inl ⟨by rfl,?_⟩) (by assumption) ?_;rotate_left
   ·(intro w hSw;(try dsimp only at hSw);go_simp;try with_reducible rfl)
   simp only[Act.put,List.setIfInBounds_toArray,List.set_cons_zero,List.set_cons_succ];refine wpAnyH_take (i:=11) (oi:=_) (v:=?_) (by simp only[List.getElem?_toArray,List.getElem?_cons_succ,List.getElem?_cons_zero];rfl) (by kernel_rfl) (by kernel_rfl) (by kernel_rfl) (by exact λ_ _ _ h=>h) (Or.inl ⟨by rfl,?_⟩) (by assumption) ?_;rotate_left
   ·(intro w hSw;(try dsimp only at hSw);go_simp;try with_reducible rfl)
   simp only[Act.put,List.setIfInBounds_toArray,List.set_cons_zero,List.set_cons_succ];refine wpAnyH_take (i:=12) (oi:=_) (v:=?_) (by simp only[List.getElem?_toArray,List.getElem?_cons_succ,List.getElem?_cons_zero];rfl) (by kernel_rfl) (by kernel_rfl) (by kernel_rfl) (by exact λ_ _ _ h=>h) (Or.inl ⟨by rfl,?_⟩) (by assumption) ?_;rotate_left
   ·(intro w hSw;(try dsimp only at hSw);go_simp;try with_reducible rfl)
   simp only[Act.put,List.setIfInBounds_toArray,List.set_cons_zero,List.set_cons_succ];refine wpAnyH_ready (rs:=[13]) (by kernel_rfl) (by simp) ?_;refine AllReadyH.cons (o:=_) (by simp only[List.getElem?_toArray,List.getElem?_cons_succ,List.getElem?_cons_zero];rfl) (λK hK=>?_) AllReadyH.nil
   go_simp
   refine(qd _ x.balance).mono ?_;rintro e w9 ⟨h9,rfl⟩;obtain rfl:=h9.pos HFIT.out;have yS:=hHeld;clear hHeld h9;refine hK.out _ _ yS (λhHeld=>?_);clear hK K;refine wpAnyH_take (i:=14) (oi:=_) (v:=?_) (by simp only[List.getElem?_toArray,List.getElem?_cons_succ,List.getElem?_cons_zero];rfl) (by kernel_rfl) (by kernel_rfl) (by kernel_rfl) (by exact λ_ _ _ h=>h) (Or.inl ⟨by rfl,?_⟩) (by assumption) ?_;rotate_left
   ·(intro w hSw;(try dsimp only at hSw);go_simp;try with_reducible rfl)
   simp only[Act.put,List.setIfInBounds_toArray,List.set_cons_zero,List.set_cons_succ];refine wpAnyH_take (i:=15) (oi:=_) (v:=?_) (by simp only[List.getElem?_toArray,List.getElem?_cons_succ,List.getElem?_cons_zero];rfl) (by kernel_rfl) (by kernel_rfl) (by kernel_rfl) (by exact λ_ _ _ h=>h) (Or.inl ⟨by rfl,?_⟩) (by assumption) ?_;rotate_left
   ·(intro w hSw;(try dsimp only at hSw);go_simp;try with_reducible rfl)
   simp only[Act.put,List.setIfInBounds_toArray,List.set_cons_zero,List.set_cons_succ];refine wpAnyH_take (i:=16) (oi:=_) (v:=?_) (by simp only[List.getElem?_toArray,List.getElem?_cons_succ,List.getElem?_cons_zero];rfl) (by kernel_rfl) (by kernel_rfl) (by kernel_rfl) (by exact λ_ _ _ h=>h) (Or.inl ⟨by rfl,?_⟩) (by assumption) ?_;rotate_left
   ·(intro w hSw;(try dsimp only at hSw);go_simp;try with_reducible rfl)
   simp only[Act.put,List.setIfInBounds_toArray,List.set_cons_zero,List.set_cons_succ];refine wpAnyH_done (by kernel_rfl) ?_ _;have a0:=HA0.out;have a1:=HA1.out;have a4:=HYS.out.2.2;clear d0 d1 d2 d3 d4 hHeld;by_cases hsum:jN m x.acct+x.delta≤4611686018427387904 ∧ -4611686018427387904≤jN m x.acct+x.delta
   case neg=>
    have hs:((s1,s2):Int×Int)=(0,41):=by rw[HSS.out];unfold js;rw[if_neg hsum]
    cases hs;have HNO:=hid (show ¬P from λhp=>by
     have h:=(HGO.out.1 hp).1.2.2.2.2.2;omega)
    clear hsum;go_wp2;go_ret;exact⟨TB.no HNO.out,HBA.out⟩
   have hs:((s1,s2):Int×Int)=(jN m x.acct+x.delta,0):=by rw[HSS.out];unfold js;rw[if_pos hsum]
   obtain⟨t,ht⟩:∃t,t=jN m x.acct+x.delta:=⟨_,rfl⟩;rw[← ht]at hs;cases hs;have HTT:=hid ht;clear ht hsum;obtain⟨bz,hbz⟩:∃e:Bool,(s1 == x.balance)=e:=⟨_,rfl⟩;cases bz
   case false=>
    have HNO:=hid (show ¬P from λhp=>by
     have h:=(HGO.out.1 hp).1.2.2.2.2.2.2;rw[← HTT.out]at h;rw[h]at hbz;simp at hbz)
    go_wp2;go_ret;exact⟨TB.no HNO.out,HBA.out⟩
   have htb:s1=x.balance:=by simpa using hbz
   have HMY:=hid (show j4 m seq x from⟨⟨by have:=of_decide_eq_false he1;omega,by have:=of_decide_eq_false he2;omega⟩,HBT.out,by have:=of_decide_eq_false he3;omega,by have h:=HKIN.out;simpa using h,λh=>by rw[h]at hdz;simp at hdz,HFIT.out,by rw[← HTT.out];exact htb⟩);have HG2:=hid (show P↔j5 (jO m x.acct x.balance) x.seq (l.drop (k+1))from HGO.out.trans ⟨λh=>h.2,λh=>⟨HMY.out,h⟩⟩);have HBD2:=hid (show ∀e∈jO m x.acct x.balance,0≤e.2∧e.2≤1125899906842624 from λe he=>by
    rcases sN he with h|rfl
    ·exact HBD.out e h
    ·exact HFIT.out)
   clear htb;have hmd:IsNM WA.drew qv mb m:=HMAA.out;obtain⟨w6,hup,hm6,hf6⟩:=pM qx Tryz.underlying306 hmd x.acct x.balance;have hfd:Fr (λg=>g=mb) WA w6:=Fr.trans (b:=WA.drew) ⟨rfl,rfl,rfl,Nat.le_refl _,λ_ _ _=>rfl⟩ hf6;have c61:=hfd.cellAt a1 HNM.out;have HM6:=hid hm6;have HB6:=hid (show Below w.heap.size w w6 from HBA.out.trans (hfd.below (B:=w.heap.size) HBA.out.size (λg hg e=>by have:=HMB.out;omega)));have hmix:Tryz.prog.follows .mixedOrders=true:=by kernel_rfl
   unfold qv at hup;clear hmd hm6 hf6 hfd;go_wp2
   go_region
   go_wp2
   go_roundw
   case rel=>exact⟨k+1,x.seq,_,by go_num,rfl,by omega,HB6,HM6,HG2,HBD2⟩
   case measure=>simp[intOf];omega
  ·have HY:=hid (show P from by
    have h:=HG.out;rw[List.drop_of_length_le (by omega)]at h;exact h.2 trivial)
   go_wp2;go_ret;exact⟨TB.yes HY.out,HB.out⟩
end
end Go.Proofs.YtaeakdichkhjaaaGreatDoor
