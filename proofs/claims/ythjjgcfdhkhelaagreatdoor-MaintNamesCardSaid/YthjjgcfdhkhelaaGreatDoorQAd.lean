/- The walks of wire.Writer's U32 and wire.Reader's U32; what is read, with a name. -/
import Derived.Test.YthjjgcfdhkhelaaGreatDoorProg
import Derived.KernelRfl
import Derived.Items
import Derived.PartsItems
import Derived.CheckFast
import Derived.HeadItems
import GoSem.Claims
import Derived.Shelf.ItemsParts
import Derived.Test.YthjjgcfdhkhelaaGreatDoorQAc
import Derived.Deep.QuietTactic
import Derived.BigQuiet
set_option maxHeartbeats 4000000
set_option maxRecDepth 100000
open Go.Lib(hid)
open Go.Proofs.Tryz
namespace Go.Proofs.YthjjgcfdhkhelaaGreatDoor
section
end
section
open Go.RowKit
def be:Nat→Nat→List UInt8
 | 0,_=>[]
 | k+1,n=>be k (n / 256)++[UInt8.ofNat (n % 256)]
theorem aF (k n:Nat):(be k n).length=k:=by induction k generalizing n with
 | zero=>rfl
 | succ k ih=>simp[be,ih]
theorem aG (x:Nat):u8v (UInt8.ofNat (x % 256)) = .int .u8 ((x % 256:Nat):Int):=by
 unfold u8v;congr 2;simp
theorem aH (k m n:Nat):be (k+m) n=be k (n / 256 ^ m)++be m n:=by
 induction m generalizing n with
 | zero=>simp[be]
 | succ m ih=>
  rw[← Nat.add_assoc];simp only[be];rw[ih,List.append_assoc,Nat.pow_succ,Nat.mul_comm,Nat.div_div_eq_div_mul]
theorem aI (n:Nat):[Value.int .u8 ((n:Int) % 256)]=(be 1 n).map u8v:=by
 simp only[be,List.nil_append,List.map_cons,List.map_nil,aG];rfl
theorem aJ (n:Nat):[Value.int .u8 ((n:Int) / 256 % 256)]=(be 1 (n / 256)).map u8v:=by
 rw[← aI];rfl
theorem aK (n:Nat):[Value.int .u8 ((n:Int) / 16777216 % 256),Value.int .u8 ((n:Int) / 65536 % 256)]=(be 2 (n / 65536)).map u8v:=by
 simp only[be,List.nil_append,List.map_cons,List.map_nil,List.cons_append,aG];have e1:(n:Int) / 16777216 % 256=((n / 65536 / 256 % 256:Nat):Int):=by omega
 have e2:(n:Int) / 65536 % 256=((n / 65536 % 256:Nat):Int):=by omega
 rw[e1,e2]
theorem aL (n:Nat)(hn:n<18446744073709551616):[Value.int .u8 ((n:Int) / 72057594037927936),Value.int .u8 ((n:Int) / 281474976710656 % 256),Value.int .u8 ((n:Int) / 1099511627776 % 256),Value.int .u8 ((n:Int) / 4294967296 % 256)]=(be 4 (n / 4294967296)).map u8v:=by
 simp only[be,List.nil_append,List.map_cons,List.map_nil,List.cons_append,aG];have e1:(n:Int) / 72057594037927936=((n / 4294967296 / 256 / 256 / 256 % 256:Nat):Int):=by omega
 have e2:(n:Int) / 281474976710656 % 256=((n / 4294967296 / 256 / 256 % 256:Nat):Int):=by omega
 have e3:(n:Int) / 1099511627776 % 256=((n / 4294967296 / 256 % 256:Nat):Int):=by omega
 have e4:(n:Int) / 4294967296 % 256=((n / 4294967296 % 256:Nat):Int):=by omega
 rw[e1,e2,e3,e4]
theorem be2 (n:Nat)(L:List UInt8):(L++be 1 (n / 256))++be 1 n=L++be 2 n:=by
 rw[List.append_assoc,← show be 2 n=be 1 (n / 256)++be 1 n from aH 1 1 n]
theorem be4 (n:Nat)(L:List UInt8):((L++be 2 (n / 65536))++be 1 (n / 256))++be 1 n=L++be 4 n:=by
 rw[be2,List.append_assoc,← show be 4 n=be 2 (n / 65536)++be 2 n from aH 2 2 n]
theorem be8 (n:Nat)(L:List UInt8):(((L++be 4 (n / 4294967296))++be 2 (n / 65536))++be 1 (n / 256))++be 1 n=L++be 8 n:=by
 rw[be4,List.append_assoc,← show be 8 n=be 4 (n / 4294967296)++be 4 n from aH 4 4 n]
theorem aM {L:List UInt8}{a:Nat}(m n:Nat)(h:L.length≤a):(L++be m n).length≤a+m:=by rw[List.length_append,aF];omega
structure aN (w:World) (p:Nat) (v:Value) (L:List UInt8):Prop where
 cell:w.heap[p]?=some (.cells #[v] 180 (0,0))
 own:w.ownsRow 0 5 1 v L.length (L.map u8v)
 ne:v.ownBlock≠some p
structure aO (p:Nat) (w w':World) (v v':Value) (L:List UInt8):Prop where
 is:aN w' p v' L
 fr:Fr (λk=>k=p∨v.ownBlock=some k) w w'
 went:aA w v v'
theorem aN.lt {w:World}{p:Nat}{v:Value}{L:List UInt8}(h:aN w p v L):p<w.heap.size:=lt_of_block h.cell
theorem aN.kept {S:Nat→Prop}{w w':World}{p:Nat}{v:Value}{L:List UInt8}(h:aN w p v L)(hf:Fr S w w')(hp:¬S p)(ho:∀g,v.ownBlock=some g→¬S g):aN w' p v L:=
 ⟨hf.heapAt h.cell hp,hf.ownsRow h.own ho,h.ne⟩
theorem aO.trans {p:Nat}{w w1 w2:World}{v v1 v2:Value}{L1 L2:List UInt8}(h:aO p w w1 v v1 L1)(k:aO p w1 w2 v1 v2 L2):aO p w w2 v v2 L2:=
 ⟨k.is,h.fr.then k.fr (λ_ hi e=>e.imp id (λe=>h.went.old hi e)),h.went.trans k.went h.fr.size⟩
theorem Tryz.infoU8:(prog.info? 5).map (λi=>(i.zero,i.size,i.bytes))=some (some (.int .u8 0),1,1):=by kernel_rfl
theorem aP {w w1:World}{p:Nat}{v v1:Value}{L:List UInt8}{m:Nat}{C:List Value}{B:List UInt8}(o:Obj)(h:aN w p v L)(hC:C=B.map u8v)(hm:m=B.length)
  (hown:w1.ownsRow 0 5 1 v1 (L.length+m) (L.map u8v++C)) (hg:(w.alloc o).grownBy w1 v.ownBlock) (hw:v1.ownBlock=v.ownBlock∨v1.ownBlock=some (w.alloc o).heap.size) :
  aO p w (w1.setCell ⟨p,0,none⟩ v1) v v1 (L++B):=by
 have hp:=h.lt;have hne:v1.ownBlock≠some p:=by
  rcases hw with hw|hw
  ·rw[hw];exact h.ne
  ·rw[hw];intro e;have:=Option.some.inj e;simp at this;omega
 have hcell:w1.heap[p]?=some (.cells #[v] 180 (0,0)):=by
  rw[hg.block p (by simp;omega) (λe=>h.ne e.symm),Below.heap_alloc _ _ _ hp];exact h.cell
 have hfr:Fr (λk=>k=p∨v.ownBlock=some k) w w1:=((Fr.refl _ w).alloc o).grown hg (λk _ e=>.inr e);subst hC hm;refine⟨⟨one_setCell hcell,?_,hne⟩,hfr.setCell _ (λ_=>.inl rfl) _,?_⟩
 ·have:=ownsRow_setCell_other hown (a:=⟨p,0,none⟩) hne v1
  rw[List.length_append,List.map_append];exact this
 ·rcases hw with hw|hw
  ·exact .inl hw
  ·exact .inr ⟨_,hw,by simp⟩
theorem aQ {w w1:World}{p:Nat}{v:Value}{L:List UInt8}{o:Obj}(h:aN w p v L)(hg:(w.alloc o).grownBy w1 v.ownBlock):w1.heap[p]?=some (.cells #[v] 180 (0,0)):=by
 have hp:=h.lt;rw[hg.block p (by simp;omega) (λe=>h.ne e.symm),Below.heap_alloc _ _ _ hp];exact h.cell
theorem aR {w w1:World}{p:Nat}{v v1:Value}{L:List UInt8}{s:ByteArray}(h:aN w p v L)
  (hown:w1.ownsRow 0 5 1 v1 (L.length+s.size) (L.map u8v++Lib.strCells s)) (hg:w.grownBy w1 v.ownBlock) (hw:aA w v v1) :
  aO p w (w1.setCell ⟨p,0,none⟩ v1) v v1 (L++s.data.toList):=by
 have hp:=h.lt;have hne:v1.ownBlock≠some p:=λe=>h.ne (hw.old hp e);have hcell:w1.heap[p]?=some (.cells #[v] 180 (0,0)):=by
  rw[hg.block p hp (λe=>h.ne e.symm)];exact h.cell
 have hfr:Fr (λk=>k=p∨v.ownBlock=some k) w w1:=(Fr.refl _ w).grown hg (λk _ e=>.inr e);refine⟨⟨one_setCell hcell,?_,hne⟩,hfr.setCell _ (λ_=>.inl rfl) _,hw⟩;have:=ownsRow_setCell_other hown (a:=⟨p,0,none⟩) hne v1;rw[List.length_append,List.map_append,ak];exact this
theorem aS (n:Nat)(p:Nat)(v:Value)(L:List UInt8)(w:World)(h:aN w p v L)(hL:L.length≤1073741824) :
  Calls prog 156 #[.pointer (some ⟨p,0,none⟩),.int .u64 (n:Int),.int .i64 1] w λe w'=>e = .returned (.tuple #[])∧∃v',aO p w w' v v' (L++be 1 n):=by
 have hc:=cell_of_one h.cell;have hf:=free_of_one h.cell;have H:=hid h;have hlt:=h.lt;obtain⟨i0,hi,hz0,hz1,hz2⟩:=info_parts Tryz.infoU8;have HI:=hid hi;have HZ0:=hid hz0;have HZ1:=hid hz1;have HZ2:=hid hz2;clear h hi hz0 hz1 hz2;have tok1:True:=trivial
 go_enter func156,ntmps156
 go_wp2_with (first
  | (at_builtin;have _t:=tok1;refine wpList_append_own_at _ rfl _ _ 178 rfl 0 5 i0 (.int .u8 0) 1 1 underlying178 HI.out HZ0.out HZ1.out HZ2.out rfl (by decide) _ _ _ rfl (H.out.own.alloc _) ⟨w.heap.size,0,none⟩ 1 1 [.int .u8 ((n:Int) % 256)] rfl rfl (aC rfl (by simp)) (by simp[Value.oneCell']) (by unfold maxLen;omega) (by omega) (Nat.zero_le _) ?_;intro v1 w1 hown1 hg1 _ hw1;obtain⟨a1,n1,c1,rfl⟩:=aB hown1;have hc1:=cell_of_one (aQ H.out hg1);have hf1:=free_of_one (aQ H.out hg1);have H1:=hid (aP _ H.out (aI n) (aF 1 n).symm hown1 hg1 hw1);have hl1:=aM 1 n hL;clear tok1))
 go_end0
 exact⟨rfl,_,H1.out⟩
theorem aT (n:Nat)(p:Nat)(v:Value)(L:List UInt8)(w:World)(h:aN w p v L)(hL:L.length≤1073741824) :
  Calls prog 156 #[.pointer (some ⟨p,0,none⟩),.int .u64 (n:Int),.int .i64 2] w λe w'=>e = .returned (.tuple #[])∧∃v',aO p w w' v v' (L++be 2 n):=by
 have hc:=cell_of_one h.cell;have hf:=free_of_one h.cell;have H:=hid h;have hlt:=h.lt;obtain⟨i0,hi,hz0,hz1,hz2⟩:=info_parts Tryz.infoU8;have HI:=hid hi;have HZ0:=hid hz0;have HZ1:=hid hz1;have HZ2:=hid hz2;clear h hi hz0 hz1 hz2;have tok1:True:=trivial;have tok2:True:=trivial
 go_enter func156,ntmps156
 go_wp2_with (first
  | (at_builtin;have _t:=tok1;refine wpList_append_own_at _ rfl _ _ 178 rfl 0 5 i0 (.int .u8 0) 1 1 underlying178 HI.out HZ0.out HZ1.out HZ2.out rfl (by decide) _ _ _ rfl (H.out.own.alloc _) ⟨w.heap.size,0,none⟩ 1 1 [.int .u8 ((n:Int) / 256 % 256)] rfl rfl (aC rfl (by simp)) (by simp[Value.oneCell']) (by unfold maxLen;omega) (by omega) (Nat.zero_le _) ?_;intro v1 w1 hown1 hg1 _ hw1;obtain⟨a1,n1,c1,rfl⟩:=aB hown1;have hc1:=cell_of_one (aQ H.out hg1);have hf1:=free_of_one (aQ H.out hg1);have H1:=hid (aP _ H.out (aJ n) (aF 1 (n / 256)).symm hown1 hg1 hw1);have hl1:=aM 1 (n / 256) hL;clear tok1)
  | (at_builtin;have _t:=tok2;refine wpList_append_own_at _ rfl _ _ 178 rfl 0 5 i0 (.int .u8 0) 1 1 underlying178 HI.out HZ0.out HZ1.out HZ2.out rfl (by decide) _ _ _ rfl (H1.out.is.own.alloc _) ⟨w1.heap.size,0,none⟩ 1 1 [.int .u8 ((n:Int) % 256)] rfl rfl (aC rfl (by simp)) (by simp[Value.oneCell']) (by unfold maxLen;omega) (by omega) (Nat.zero_le _) ?_;intro v2 w2 hown2 hg2 _ hw2;obtain⟨a2,n2,c2,rfl⟩:=aB hown2;have hc2:=cell_of_one (aQ H1.out.is hg2);have hf2:=free_of_one (aQ H1.out.is hg2);have H2:=hid (aP _ H1.out.is (aI n) (aF 1 n).symm hown2 hg2 hw2);have hl2:=aM 1 n hl1;clear tok2))
 go_end0
 exact⟨rfl,_,be2 n L▸(H1.out).trans H2.out⟩
theorem aU (n:Nat)(p:Nat)(v:Value)(L:List UInt8)(w:World)(h:aN w p v L)(hL:L.length≤1073741824) :
  Calls prog 156 #[.pointer (some ⟨p,0,none⟩),.int .u64 (n:Int),.int .i64 4] w λe w'=>e = .returned (.tuple #[])∧∃v',aO p w w' v v' (L++be 4 n):=by
 have hc:=cell_of_one h.cell;have hf:=free_of_one h.cell;have H:=hid h;have hlt:=h.lt;obtain⟨i0,hi,hz0,hz1,hz2⟩:=info_parts Tryz.infoU8;have HI:=hid hi;have HZ0:=hid hz0;have HZ1:=hid hz1;have HZ2:=hid hz2;clear h hi hz0 hz1 hz2;have tok1:True:=trivial;have tok2:True:=trivial;have tok3:True:=trivial
 go_enter func156,ntmps156
 go_wp2_with (first
  | (at_builtin;have _t:=tok1;refine wpList_append_own_at _ rfl _ _ 178 rfl 0 5 i0 (.int .u8 0) 1 1 underlying178 HI.out HZ0.out HZ1.out HZ2.out rfl (by decide) _ _ _ rfl (H.out.own.alloc _) ⟨w.heap.size,0,none⟩ 2 2 [.int .u8 ((n:Int) / 16777216 % 256),.int .u8 ((n:Int) / 65536 % 256)] rfl rfl (aC rfl (by simp)) (by simp[Value.oneCell']) (by unfold maxLen;omega) (by omega) (Nat.zero_le _) ?_;intro v1 w1 hown1 hg1 _ hw1;obtain⟨a1,n1,c1,rfl⟩:=aB hown1;have hc1:=cell_of_one (aQ H.out hg1);have hf1:=free_of_one (aQ H.out hg1);have H1:=hid (aP _ H.out (aK n) (aF 2 (n / 65536)).symm hown1 hg1 hw1);have hl1:=aM 2 (n / 65536) hL;clear tok1)
  | (at_builtin;have _t:=tok2;refine wpList_append_own_at _ rfl _ _ 178 rfl 0 5 i0 (.int .u8 0) 1 1 underlying178 HI.out HZ0.out HZ1.out HZ2.out rfl (by decide) _ _ _ rfl (H1.out.is.own.alloc _) ⟨w1.heap.size,0,none⟩ 1 1 [.int .u8 ((n:Int) / 256 % 256)] rfl rfl (aC rfl (by simp)) (by simp[Value.oneCell']) (by unfold maxLen;omega) (by omega) (Nat.zero_le _) ?_;intro v2 w2 hown2 hg2 _ hw2;obtain⟨a2,n2,c2,rfl⟩:=aB hown2;have hc2:=cell_of_one (aQ H1.out.is hg2);have hf2:=free_of_one (aQ H1.out.is hg2);have H2:=hid (aP _ H1.out.is (aJ n) (aF 1 (n / 256)).symm hown2 hg2 hw2);have hl2:=aM 1 (n / 256) hl1;clear tok2)
  | (at_builtin;have _t:=tok3;refine wpList_append_own_at _ rfl _ _ 178 rfl 0 5 i0 (.int .u8 0) 1 1 underlying178 HI.out HZ0.out HZ1.out HZ2.out rfl (by decide) _ _ _ rfl (H2.out.is.own.alloc _) ⟨w2.heap.size,0,none⟩ 1 1 [.int .u8 ((n:Int) % 256)] rfl rfl (aC rfl (by simp)) (by simp[Value.oneCell']) (by unfold maxLen;omega) (by omega) (Nat.zero_le _) ?_;intro v3 w3 hown3 hg3 _ hw3;obtain⟨a3,n3,c3,rfl⟩:=aB hown3;have hc3:=cell_of_one (aQ H2.out.is hg3);have hf3:=free_of_one (aQ H2.out.is hg3);have H3:=hid (aP _ H2.out.is (aI n) (aF 1 n).symm hown3 hg3 hw3);have hl3:=aM 1 n hl2;clear tok3))
 go_end0
 exact⟨rfl,_,be4 n L▸((H1.out).trans H2.out).trans H3.out⟩
theorem aV (n:Nat)(p:Nat)(v:Value)(L:List UInt8)(w:World)(hn:n<18446744073709551616)(h:aN w p v L)(hL:L.length≤1073741824) :
  Calls prog 156 #[.pointer (some ⟨p,0,none⟩),.int .u64 (n:Int),.int .i64 8] w λe w'=>e = .returned (.tuple #[])∧∃v',aO p w w' v v' (L++be 8 n):=by
 have HC4:=hid (aL n hn);have hc:=cell_of_one h.cell;have hf:=free_of_one h.cell;have H:=hid h;have hlt:=h.lt;obtain⟨i0,hi,hz0,hz1,hz2⟩:=info_parts Tryz.infoU8;have HI:=hid hi;have HZ0:=hid hz0;have HZ1:=hid hz1;have HZ2:=hid hz2;clear h hi hz0 hz1 hz2;have tok1:True:=trivial;have tok2:True:=trivial;have tok3:True:=trivial;have tok4:True:=trivial
 go_enter func156,ntmps156
 go_wp2_with (first
  | (at_builtin;have _t:=tok1;refine wpList_append_own_at _ rfl _ _ 178 rfl 0 5 i0 (.int .u8 0) 1 1 underlying178 HI.out HZ0.out HZ1.out HZ2.out rfl (by decide) _ _ _ rfl (H.out.own.alloc _) ⟨w.heap.size,0,none⟩ 4 4 [.int .u8 ((n:Int) / 72057594037927936),.int .u8 ((n:Int) / 281474976710656 % 256),.int .u8 ((n:Int) / 1099511627776 % 256),.int .u8 ((n:Int) / 4294967296 % 256)] rfl rfl (aC rfl (by simp)) (by simp[Value.oneCell']) (by unfold maxLen;omega) (by omega) (Nat.zero_le _) ?_;intro v1 w1 hown1 hg1 _ hw1;obtain⟨a1,n1,c1,rfl⟩:=aB hown1;have hc1:=cell_of_one (aQ H.out hg1);have hf1:=free_of_one (aQ H.out hg1);have H1:=hid (aP _ H.out HC4.out (aF 4 (n / 4294967296)).symm hown1 hg1 hw1);have hl1:=aM 4 (n / 4294967296) hL;clear tok1)
  | (at_builtin;have _t:=tok2;refine wpList_append_own_at _ rfl _ _ 178 rfl 0 5 i0 (.int .u8 0) 1 1 underlying178 HI.out HZ0.out HZ1.out HZ2.out rfl (by decide) _ _ _ rfl (H1.out.is.own.alloc _) ⟨w1.heap.size,0,none⟩ 2 2 [.int .u8 ((n:Int) / 16777216 % 256),.int .u8 ((n:Int) / 65536 % 256)] rfl rfl (aC rfl (by simp)) (by simp[Value.oneCell']) (by unfold maxLen;omega) (by omega) (Nat.zero_le _) ?_;intro v2 w2 hown2 hg2 _ hw2;obtain⟨a2,n2,c2,rfl⟩:=aB hown2;have hc2:=cell_of_one (aQ H1.out.is hg2);have hf2:=free_of_one (aQ H1.out.is hg2);have H2:=hid (aP _ H1.out.is (aK n) (aF 2 (n / 65536)).symm hown2 hg2 hw2);have hl2:=aM 2 (n / 65536) hl1;clear tok2)
  | (at_builtin;have _t:=tok3;refine wpList_append_own_at _ rfl _ _ 178 rfl 0 5 i0 (.int .u8 0) 1 1 underlying178 HI.out HZ0.out HZ1.out HZ2.out rfl (by decide) _ _ _ rfl (H2.out.is.own.alloc _) ⟨w2.heap.size,0,none⟩ 1 1 [.int .u8 ((n:Int) / 256 % 256)] rfl rfl (aC rfl (by simp)) (by simp[Value.oneCell']) (by unfold maxLen;omega) (by omega) (Nat.zero_le _) ?_;intro v3 w3 hown3 hg3 _ hw3;obtain⟨a3,n3,c3,rfl⟩:=aB hown3;have hc3:=cell_of_one (aQ H2.out.is hg3);have hf3:=free_of_one (aQ H2.out.is hg3);have H3:=hid (aP _ H2.out.is (aJ n) (aF 1 (n / 256)).symm hown3 hg3 hw3);have hl3:=aM 1 (n / 256) hl2;clear tok3)
  | (at_builtin;have _t:=tok4;refine wpList_append_own_at _ rfl _ _ 178 rfl 0 5 i0 (.int .u8 0) 1 1 underlying178 HI.out HZ0.out HZ1.out HZ2.out rfl (by decide) _ _ _ rfl (H3.out.is.own.alloc _) ⟨w3.heap.size,0,none⟩ 1 1 [.int .u8 ((n:Int) % 256)] rfl rfl (aC rfl (by simp)) (by simp[Value.oneCell']) (by unfold maxLen;omega) (by omega) (Nat.zero_le _) ?_;intro v4 w4 hown4 hg4 _ hw4;obtain⟨a4,n4,c4,rfl⟩:=aB hown4;have hc4:=cell_of_one (aQ H3.out.is hg4);have hf4:=free_of_one (aQ H3.out.is hg4);have H4:=hid (aP _ H3.out.is (aI n) (aF 1 n).symm hown4 hg4 hw4);have hl4:=aM 1 n hl3;clear tok4))
 go_end0
 exact⟨rfl,_,be8 n L▸(((H1.out).trans H2.out).trans H3.out).trans H4.out⟩
theorem aW (n:Nat)(p:Nat)(v:Value)(L:List UInt8)(w:World)(hn:n<18446744073709551616)(h:aN w p v L)(hL:L.length≤1073741824) :
  Calls prog 112 #[.pointer (some ⟨p,0,none⟩),.int .u64 (n:Int)] w λe w'=>e = .returned (.tuple #[])∧∃v',aO p w w' v v' (L++be 8 n):=by
 have H:=hid h;clear h
 go_enter func112,ntmps112
 go_wp2_with fail
 refine(aV n p v L _ hn H.out hL).mono ?_;rintro e w1 ⟨rfl,h1⟩;have H1:=hid h1;clear h1;go_wp2
 go_end0
 exact⟨rfl,H1.out⟩
theorem aX (s:ByteArray)(p:Nat)(v:Value)(L:List UInt8)(w:World)(h:aN w p v L)(hL:L.length+s.size≤140737488355328) :
  Calls prog 116 #[.pointer (some ⟨p,0,none⟩),.string s] w λe w'=>e = .returned (.tuple #[])∧∃v',aO p w w' v v' (L++s.data.toList):=by
 have hc:=cell_of_one h.cell;have hf:=free_of_one h.cell;have H:=hid h;have hlt:=h.lt;obtain⟨i0,hi,hz0,hz1,hz2⟩:=info_parts Tryz.infoU8;have HI:=hid hi;have HZ0:=hid hz0;have HZ1:=hid hz1;have HZ2:=hid hz2;clear h hi hz0 hz1 hz2
 go_enter func116,ntmps116
 go_wp2_with (at_builtin;refine aE _ rfl _ _ 178 9 rfl 5 i0 underlying178 underlying9 HI.out HZ0.out HZ1.out HZ2.out v L.length _ rfl H.out.own s rfl (by unfold maxLen;omega) (by omega) ?_;intro v1 w1 hown1 hg1 hw1;have HW:=hid hw1;clear hw1;obtain⟨a1,n1,c1,rfl⟩:=aB hown1;have hc1:=cell_of_one ((hg1.block p hlt (λe=>H.out.ne e.symm)).trans H.out.cell);have hf1:=free_of_one ((hg1.block p hlt (λe=>H.out.ne e.symm)).trans H.out.cell))
 go_end0
 exact⟨rfl,_,aR H.out hown1 hg1 HW.out⟩
theorem aY {w:World}{v:Value}{L:List UInt8}(h:w.ownsRow 0 5 1 v L.length (L.map u8v)):(convert 178 9 v).run prog w = .ok (.string ⟨L.toArray⟩) w:=by
 rcases h.2 with⟨hv,hn⟩|⟨g,cap,cur,hv,_⟩
 ·have:L=[]:=List.eq_nil_of_length_eq_zero hn
  subst hv this;rw[run_convert_bytes_nil (P:=prog) w 178 5 underlying178 underlying5 0 0 9 underlying9];rfl
 ·subst hv
  refine ai w _ _ _ underlying178 underlying5 underlying9 g 0 L.length cap L rfl (λi hi=>?_);rw[Nat.zero_add,h.cellAt i (by omega)];simp[hi]
theorem aZ (p:Nat)(v:Value)(L:List UInt8)(w:World)(h:aN w p v L) :
  Calls prog 115 #[.pointer (some ⟨p,0,none⟩)] w λe w'=>∃r:ByteArray,r.data.toList=L∧e = .returned (.string r)∧w=w':=by
 have hc:=cell_of_one h.cell;have hconv:=aY h.own;obtain⟨a,n,c,rfl⟩:=aB h.own;obtain⟨q,hq,eq⟩:=aj L;rw[eq]at hconv;have HQ:=hid hq;clear hq eq h
 go_enter func115,ntmps115
 go_wp2;go_ret;exact⟨q,HQ.out,rfl,rfl⟩
structure bc where
 at_:Nat
 e:Int
 tow:Int
def bc.take (st:bc)(s:List UInt8)(n:Nat):List UInt8×Bool×bc:=
 if st.e≠0 then ([],false,st)
 else if s.length-st.at_<n then ([],false,⟨st.at_,8,st.at_⟩)
 else ((s.drop st.at_).take n,true,⟨st.at_+n,st.e,st.tow⟩)
def val (l:List UInt8):Nat:=l.foldl (λn b=>n*256+b.toNat) 0
def bc.cells (st:bc)(s:ByteArray):Array Value:=#[.string s,.int .i64 (st.at_:Int),.int .i64 st.e,.int .i64 st.tow]
def bd (w:World)(p:Nat)(s:ByteArray)(st:bc):Prop:=w.heap[p]?=some (.cells (st.cells s) 234 (0,0))∧st.at_≤s.size∧s.size≤1099511627776
theorem bd.lt {w:World}{p:Nat}{s:ByteArray}{st:bc}(h:bd w p s st):p<w.heap.size:=lt_of_block h.1
theorem bd.cs {w:World}{p:Nat}{s:ByteArray}{st:bc}(h:bd w p s st) :
  w.cell? ⟨p,0,none⟩=some (.string s)∧w.cell? ⟨p,1,none⟩=some (.int .i64 (st.at_:Int))∧w.cell? ⟨p,2,none⟩=some (.int .i64 st.e)∧w.cell? ⟨p,3,none⟩=some (.int .i64 st.tow):=by
 refine⟨?_,?_,?_,?_⟩<;>rw[cell_of_row w p _ _ _ _ h.1]<;>rfl
theorem bd.fz {w:World}{p:Nat}{s:ByteArray}{st:bc}(h:bd w p s st)(j:Nat):w.frozen? ⟨p,j,none⟩=false:=frozen_of_row w p j _ _ h.1
theorem bd.kept {S:Nat→Prop}{w w':World}{p:Nat}{s:ByteArray}{st:bc}(h:bd w p s st)(hf:Fr S w w')(hp:¬S p):bd w' p s st:=⟨hf.heapAt h.1 hp,h.2⟩
theorem bd.drewN {w:World}{p:Nat}{s:ByteArray}{st:bc}(h:bd w p s st)(n:Nat):bd (w.drewN n) p s st:=h
theorem bf (s:ByteArray)(w:World)(hs:s.size≤1099511627776) :
  Calls prog 121 #[.string s] w λe w'=>e = .returned (.pointer (some ⟨w.heap.size,0,none⟩))∧bd w' w.heap.size s ⟨0,0,0⟩∧Below w.heap.size w w':=by
 go_enter func121,ntmps121
 go_wp2;go_ret;exact⟨rfl,⟨heap_alloc_new _ _,Nat.zero_le _,hs⟩,(Below.refl _ _).alloc (Nat.le_refl _) _⟩
theorem bg (w:World)(p:Nat)(s:ByteArray)(st:bc)(h:bd w p s st)(b:Bool)(hb:(st.e == 0)=b) :
  Calls prog 220 #[.pointer (some ⟨p,0,none⟩)] w λe w'=>e = .returned (.bool b)∧w=w':=by
 obtain⟨c0,c1,c2,c3⟩:=h.cs;clear h
 go_enter func220,ntmps220
 go_wp2;go_ret;exact⟨rfl,rfl⟩
theorem bh (w:World)(p:Nat)(s:ByteArray)(st:bc)(h:bd w p s st)(e:Int)(a:Nat)(ha2:a≤s.size) :
  Calls prog 221 #[.pointer (some ⟨p,0,none⟩),.int .i64 e,.int .i64 (a:Int)] w λe' w'=>e' = .returned (.tuple #[])∧bd w' p s ⟨a,e,a⟩∧Fr (λk=>k=p) w w':=by
 obtain⟨c0,c1,c2,c3⟩:=h.cs;have f1:=h.fz 1;have f2:=h.fz 2;have f3:=h.fz 3;have H:=hid h;clear h
 go_enter func221,ntmps221
 go_wp2
 go_end0
 refine⟨rfl,⟨?_,ha2,H.out.2.2⟩,?_⟩
 ·rw[heap_setCell_same _ _ _ _ _ _ (heap_setCell_same _ _ _ _ _ _ (heap_setCell_same _ _ _ _ _ _ H.out.1))]
  simp[bc.cells]
 ·exact(((Fr.refl (λk=>k=p) w).setCell ⟨p,2,none⟩ (λ_=>rfl) _).setCell ⟨p,3,none⟩ (λ_=>rfl) _).setCell ⟨p,1,none⟩ (λ_=>rfl) _
theorem bi (w:World)(p:Nat)(s:ByteArray)(st:bc)(h:bd w p s st)(n:Nat)(hn:n≤1099511627776) :
  Calls prog 161 #[.pointer (some ⟨p,0,none⟩),.int .i64 (n:Int)] w λe w'=>∃r:ByteArray,r.data.toList=(st.take s.data.toList n).1∧e = .returned (.tuple #[.string r,.bool (st.take s.data.toList n).2.1])∧bd w' p s (st.take s.data.toList n).2.2∧Fr (λk=>k=p) w w':=by
 obtain⟨c0,c1,c2,c3⟩:=h.cs;have f1:=h.fz 1;have hat:=h.2.1;have hss:=h.2.2;by_cases he:st.e=0
 ·by_cases hlt:s.size-st.at_<n
  ·have HT:=hid (show st.take s.data.toList n=([],false,⟨st.at_,8,st.at_⟩)from by
    unfold bc.take;rw[ak];rw[if_neg (λhx=>hx he),if_pos hlt])
   rw[HT.out];have H:=hid h;clear h;have hlt':(s.size:Int)-(st.at_:Int)<(n:Int):=by omega
   rw[he]at c2;have HE:=hid he;clear he
   go_enter func161,ntmps161
   go_wp2_with fail
   refine(bg _ p s st H.out true (by rw[HE.out];rfl)).mono ?_;rintro e w1 ⟨rfl,rfl⟩
   go_wp2_with fail
   go_quiet (fail)
   go_wp2_with fail
   refine(bh _ p s st (H.out.drewN _) 8 st.at_ hat).mono ?_;rintro e w1 ⟨rfl,h1,hf1⟩;have H1:=hid h1;clear h1;go_wp2
   go_ret2
   exact⟨_,rfl,rfl,H1.out,(Fr.refl _ w).drewN _ |>.trans hf1⟩
  ·have HT:=hid (show st.take s.data.toList n=((s.data.toList.drop st.at_).take n,true,⟨st.at_+n,st.e,st.tow⟩)from by
    unfold bc.take;rw[ak];rw[if_neg (λhx=>hx he),if_neg hlt])
   rw[HT.out];have H:=hid h;clear h;have hlt':(n:Int)≤(s.size:Int)-(st.at_:Int):=by omega
   rw[he]at c2;have HE:=hid he;clear he
   go_enter func161,ntmps161
   go_wp2_with fail
   refine(bg _ p s st H.out true (by rw[HE.out];rfl)).mono ?_;rintro e w1 ⟨rfl,rfl⟩
   go_wp2_with fail
   go_quiet (fail)
   go_wp2_with fail
   go_quiet (fail)
   go_wp2
   go_ret2
   refine⟨_,by rw[ap,Nat.add_sub_cancel_left],rfl,⟨?_,by show st.at_+n≤s.size;omega,hss⟩,((Fr.refl (λk=>k=p) w).drewN _).setCell ⟨p,1,none⟩ (λ_=>rfl) _⟩;rw[heap_setCell_same _ _ _ _ _ _ (H.out.drewN _).1];simp[bc.cells,HE.out]
 ·have HT:=hid (show st.take s.data.toList n=([],false,st)from by
   unfold bc.take;rw[if_pos he])
  rw[HT.out];have H:=hid h;have HE:=hid he;clear h he
  go_enter func161,ntmps161
  go_wp2_with fail
  refine(bg _ p s st H.out false (by simpa using HE.out)).mono ?_;rintro e w1 ⟨rfl,rfl⟩;go_wp2
  go_ret2
  exact⟨_,rfl,rfl,H.out,Fr.refl _ _⟩
def bc.fixed (st:bc)(s:List UInt8)(k:Nat):Nat×bc:=(val (st.take s k).1,(st.take s k).2.2)
theorem bj (l:List UInt8)(b:UInt8):val (l++[b])=val l*256+b.toNat:=by simp[val]
theorem bm (l:List UInt8):∀a:Nat,l.foldl (λn b=>n*256+b.toNat) a<(a+1)*256 ^ l.length:=by
 induction l with
 | nil=>intro a;simp
 | cons b l ih=>
  intro a;have h:=ih (a*256+b.toNat);have hb:=b.toNat_lt;rw[List.foldl_cons,List.length_cons,Nat.pow_succ,Nat.mul_comm (256 ^ l.length),← Nat.mul_assoc];exact Nat.lt_of_lt_of_le h (Nat.mul_le_mul_right _ (by omega))
theorem bn (l:List UInt8):val l<256 ^ l.length:=by
 have h:=bm l 0;rw[Nat.zero_add,Nat.one_mul]at h;exact h
theorem bp {l:List UInt8}(h:l.length≤7):val l<72057594037927936:=by
 have h1:=bn l;have h2:256 ^ l.length≤256 ^ 7:=Nat.pow_le_pow_right (by decide) h;exact Nat.lt_of_lt_of_le h1 h2
theorem bt (st:bc)(s:List UInt8)(n:Nat):(st.take s n).1.length≤n:=by
 unfold bc.take
 split
 ·simp
 ·split
  ·simp
  ·simp;omega
theorem bu (w:World)(p:Nat)(s:ByteArray)(st:bc)(h:bd w p s st)(n:Nat)(hn:n≤1099511627776) :
  Calls prog 122 #[.pointer (some ⟨p,0,none⟩),.int .i64 (n:Int)] w λe w'=>∃r:ByteArray,r.data.toList=(st.take s.data.toList n).1∧e = .returned (.string r)∧bd w' p s (st.take s.data.toList n).2.2∧Fr (λk=>k=p) w w':=by
 have H:=hid h;clear h
 go_enter func122,ntmps122
 go_wp2_with fail
 refine(bi _ p s st H.out n hn).mono ?_;rintro e w1 ⟨r,hr,rfl,h1,hf1⟩;have HR:=hid hr;have H1:=hid h1;clear hr h1;go_wp2;go_ret;exact⟨r,HR.out,rfl,H1.out,hf1⟩
theorem bw (n:Nat)(b:UInt8)(hn:n<72057594037927936):bits .or .u64 ((n:Int)*256) (IntKind.u64.wrap (b.toNat:Int))=((n*256+b.toNat:Nat):Int):=by
 have hb:=b.toNat_lt;rw[show IntKind.u64.wrap (b.toNat:Int)=(b.toNat:Int)from by rw[IntKind.wrap_u64];omega];rw[bits_join .u64 64 (by decide) (λx h0 h1=>by rw[IntKind.wrap_u64];omega) 8 ((n:Int)*256) (b.toNat:Int) (by omega) (by omega) (by omega) (by omega) (by omega) (by omega)];omega
theorem bz (r:ByteArray)(k:Nat)(h:k<r.size):val (r.data.toList.take (k+1))=val (r.data.toList.take k)*256+r[k].toNat:=by
 rw[List.take_succ_eq_append_getElem (by simpa using h),bj];rfl
theorem bA (w:World)(p:Nat)(s:ByteArray)(st:bc)(h:bd w p s st)(k:Nat)(hk:k≤8) :
  Calls prog 162 #[.pointer (some ⟨p,0,none⟩),.int .i64 (k:Int)] w λe w'=>e = .returned (.int .u64 ((st.fixed s.data.toList k).1:Int))∧bd w' p s (st.fixed s.data.toList k).2∧Fr (λk=>k=p) w w':=by
 unfold bc.fixed;have H:=hid h;clear h
 go_enter func162,ntmps162
 go_wp2_with fail
 refine(bi _ p s st H.out k (by omega)).mono ?_;rintro e w1 ⟨r,hr,rfl,h1,hf1⟩;have hrs:r.size≤8:=by rw[ao hr];exact Nat.le_trans (bt st s.data.toList k) hk
 have HR:=hid hr;have H1:=hid h1;clear hr h1;go_wp2
 go_loop [7,17] (λv i=>∃(j n:Nat),j≤r.size∧i = .int .i64 j∧v = .int .u64 (n:Int)∧n=val (r.data.toList.take j)) (λ_ i=>r.size-(intOf i).toNat)
 case atStart=>exact⟨0,0,by omega,rfl,rfl,rfl⟩
 case round=>
  obtain⟨j,n,hj,rfl,rfl,hn⟩:=hrel;by_cases hlt:j<r.size
  ·have hb7:n<72057594037927936:=by rw[hn];exact bp (by rw[List.length_take];omega)
   have HO:=hid (bw n r[j] hb7);have HN:=hid hn;clear hn;go_wp2
   go_round
   case rel=>exact⟨j+1,n*256+r[j].toNat,by omega,by go_num,by rw[HO.out],by rw[bz r j hlt,HN.out]⟩
   case measure=>simp[intOf];omega
  ·have HN:=hid hn
   clear hn;go_wp2;go_ret;exact⟨by rw[← HR.out,HN.out,List.take_of_length_le (by rw[ak];omega)];rfl,H1.out,hf1⟩
theorem bB (w:World)(p:Nat)(s:ByteArray)(st:bc)(h:bd w p s st) :
  Calls prog 123 #[.pointer (some ⟨p,0,none⟩)] w λe w'=>e = .returned (.int .u64 ((st.fixed s.data.toList 8).1:Int))∧bd w' p s (st.fixed s.data.toList 8).2∧Fr (λk=>k=p) w w':=by
 have H:=hid h;clear h
 go_enter func123,ntmps123
 go_wp2_with fail
 refine(bA _ p s st H.out 8 (by omega)).mono ?_;rintro e w1 ⟨rfl,h1,hf1⟩;have H1:=hid h1;clear h1;go_wp2;go_ret;exact⟨rfl,H1.out,hf1⟩
theorem bC {l:List UInt8}(h:l.length≤2):val l<65536:=by
 have h1:=bn l;have h2:256 ^ l.length≤256 ^ 2:=Nat.pow_le_pow_right (by decide) h;exact Nat.lt_of_lt_of_le h1 h2
theorem bD (w:World)(p:Nat)(s:ByteArray)(st:bc)(h:bd w p s st) :
  Calls prog 164 #[.pointer (some ⟨p,0,none⟩)] w λe w'=>e = .returned (.tuple #[.int .i64 st.e,.int .i64 st.tow])∧∃n,w'=w.drewN n:=by
 obtain⟨c0,c1,c2,c3⟩:=h.cs;clear h
 go_enter func164,ntmps164
 go_wp2_with fail
 go_quiet (fail)
 go_wp2
 go_ret2
 exact⟨rfl,_,rfl⟩
theorem bE (w:World)(p:Nat)(s:ByteArray)(st:bc)(h:bd w p s st) :
  Calls prog 165 #[.pointer (some ⟨p,0,none⟩)] w λe w'=>e = .returned (.int .i64 ((s.size:Int)-(st.at_:Int)))∧∃n,w'=w.drewN n:=by
 obtain⟨c0,c1,c2,c3⟩:=h.cs;have h1:=h.2.1;have h2:=h.2.2;clear h
 go_enter func165,ntmps165
 go_wp2_with fail
 go_quiet (fail)
 go_wp2;go_ret;exact⟨rfl,_,rfl⟩
def bc.ended (st:bc)(n:Nat):Int:=if st.e=0∧st.at_<n then 4 else st.e
theorem bF (w:World)(p:Nat)(s:ByteArray)(st:bc)(h:bd w p s st) :
  Calls prog 125 #[.pointer (some ⟨p,0,none⟩)] w λe w'=>e = .returned (.int .i64 (st.ended s.size))∧∃n,w'=w.drewN n:=by
 by_cases he:st.e=0
 ·by_cases hlt:st.at_<s.size
  ·rw[show st.ended s.size=4 from by unfold bc.ended;rw[if_pos ⟨he,hlt⟩]]
   have H:=hid h;have HE:=hid he;clear h he
   go_enter func125,ntmps125
   go_wp2_with fail
   refine(bD _ p s st H.out).mono ?_;rintro e w1 ⟨rfl,n1,rfl⟩;rw[HE.out]
   go_wp2_with fail
   refine(bE _ p s st (H.out.drewN _)).mono ?_;rintro e w1 ⟨rfl,n2,rfl⟩;go_wp2;go_ret;exact⟨rfl,_,rfl⟩
  ·rw[show st.ended s.size=0 from by unfold bc.ended;rw[if_neg (λh=>hlt h.2),he]]
   have H:=hid h;have HE:=hid he;clear h he
   go_enter func125,ntmps125
   go_wp2_with fail
   refine(bD _ p s st H.out).mono ?_;rintro e w1 ⟨rfl,n1,rfl⟩;rw[HE.out]
   go_wp2_with fail
   refine(bE _ p s st (H.out.drewN _)).mono ?_;rintro e w1 ⟨rfl,n2,rfl⟩;go_wp2;go_ret;exact⟨rfl,_,rfl⟩
 ·rw[show st.ended s.size=st.e from by unfold bc.ended;rw[if_neg (λh=>he h.1)]]
  have H:=hid h;have hE:(st.e == 0)=false:=by simpa using he
  clear h he
  go_enter func125,ntmps125
  go_wp2_with fail
  refine(bD _ p s st H.out).mono ?_;rintro e w1 ⟨rfl,n1,rfl⟩;go_wp2;go_ret;exact⟨rfl,_,rfl⟩
theorem bG (w:World)(p:Nat)(s:ByteArray)(st:bc)(h:bd w p s st) :
  Calls prog 163 #[.pointer (some ⟨p,0,none⟩),.int .i64 2] w λe w'=>e = .returned (.int .u16 ((st.fixed s.data.toList 2).1:Int))∧bd w' p s (st.fixed s.data.toList 2).2∧Fr (λk=>k=p) w w':=by
 unfold bc.fixed;have H:=hid h;clear h
 go_enter func163,ntmps163
 go_wp2_with fail
 refine(bi _ p s st H.out 2 (by omega)).mono ?_;rintro e w1 ⟨r,hr,rfl,h1,hf1⟩;have hrs:r.size≤2:=by rw[ao hr];exact bt st s.data.toList 2
 have HR:=hid hr;have H1:=hid h1;clear hr h1;go_wp2
 go_loop [7,17] (λv i=>∃(j n:Nat),j≤r.size∧i = .int .i64 j∧v = .int .u64 (n:Int)∧n=val (r.data.toList.take j)) (λ_ i=>r.size-(intOf i).toNat)
 case atStart=>exact⟨0,0,by omega,rfl,rfl,rfl⟩
 case round=>
  obtain⟨j,n,hj,rfl,rfl,hn⟩:=hrel;by_cases hlt:j<r.size
  ·have hb7:n<72057594037927936:=by rw[hn];exact bp (by rw[List.length_take];omega)
   have HO:=hid (bw n r[j] hb7);have HN:=hid hn;clear hn;go_wp2
   go_round
   case rel=>exact⟨j+1,n*256+r[j].toNat,by omega,by go_num,by rw[HO.out],by rw[bz r j hlt,HN.out]⟩
   case measure=>simp[intOf];omega
  ·have hb2:n<65536:=by rw[hn];exact bC (by rw[List.length_take,ak];omega)
   have HN:=hid hn;clear hn;go_wp2;go_ret;exact⟨by rw[← HR.out,HN.out,List.take_of_length_le (by rw[ak];omega)];rfl,H1.out,hf1⟩
theorem bH (w:World)(p:Nat)(s:ByteArray)(st:bc)(h:bd w p s st) :
  Calls prog 124 #[.pointer (some ⟨p,0,none⟩)] w λe w'=>e = .returned (.int .u16 ((st.fixed s.data.toList 2).1:Int))∧bd w' p s (st.fixed s.data.toList 2).2∧Fr (λk=>k=p) w w':=by
 have H:=hid h;clear h
 go_enter func124,ntmps124
 go_wp2_with fail
 refine(bG _ p s st H.out).mono ?_;rintro e w1 ⟨rfl,h1,hf1⟩;have H1:=hid h1;clear h1;go_wp2;go_ret;exact⟨rfl,H1.out,hf1⟩
theorem ba (n:Nat)(p:Nat)(v:Value)(L:List UInt8)(w:World)(hn:n<65536)(h:aN w p v L)(hL:L.length≤1073741824) :
  Calls prog 126 #[.pointer (some ⟨p,0,none⟩),.int .u16 (n:Int)] w λe w'=>e = .returned (.tuple #[])∧∃v',aO p w w' v v' (L++be 2 n):=by
 have H:=hid h;clear h
 go_enter func126,ntmps126
 go_wp2_with fail
 refine(aT n p v L _ H.out hL).mono ?_;rintro e w1 ⟨rfl,h1⟩;have H1:=hid h1;clear h1;go_wp2
 go_end0
 exact⟨rfl,H1.out⟩
abbrev bI:=List (Int×Int)
def bJ (w:World)(sv:Value)(l:bI):Prop:=
 ∃a c,sv = .slice a l.length c∧(l=[]∨∃b o,a=some ⟨b,o,none⟩∧∀i (h:i<l.length),w.cell? ⟨b,o+i*2,none⟩=some (.int .i64 l[i].1)∧w.cell? ⟨b,o+i*2+1,none⟩=some (.int .i64 l[i].2))
theorem bJ.shape {w:World}{sv:Value}{l:bI}(h:bJ w sv l):∃a c,sv = .slice a l.length c:=by obtain⟨a,c,h,_⟩:=h;exact⟨a,c,h⟩
theorem bJ.kept {S:Nat→Prop}{w w':World}{sv:Value}{l:bI}(h:bJ w sv l)(hf:Fr S w w')(hs:∀g,sv.ownBlock=some g→¬S g):bJ w' sv l:=by
 obtain⟨a,c,rfl,h|⟨b,o,rfl,h⟩⟩:=h
 ·exact⟨a,c,rfl,.inl h⟩
 ·refine⟨_,c,rfl,.inr ⟨b,o,rfl,λi hi=>?_⟩⟩
  obtain⟨h1,h2⟩:=h i hi;exact⟨hf.cellAt h1 (hs b rfl),hf.cellAt h2 (hs b rfl)⟩
theorem bJ.pure {w w':World}{sv:Value}{l:bI}(h:bJ w sv l)(hb:Below w.heap.size w w'):bJ w' sv l:=h.kept (Fr.pure (S:=λ_=>False) hb) (λ_ _ hf=>hf)
theorem bJ.at {w:World}{a:Option Addr}{c n:Nat}{l:bI}(h:bJ w (.slice a n c) l)(k:Nat)(hk:k<l.length) :
  ∃b o,a=some ⟨b,o,none⟩∧w.cell? ⟨b,o+k*2,none⟩=some (.int .i64 l[k].1)∧w.cell? ⟨b,o+k*2+1,none⟩=some (.int .i64 l[k].2)∧b<w.heap.size:=by
 obtain⟨a',c',he,h|⟨b,o,rfl,h⟩⟩:=h
 ·subst h;simp at hk
 ·cases he
  obtain⟨h1,h2⟩:=h k hk;exact⟨b,o,rfl,h1,h2,aw h1⟩
def bK (g:Int):Int→bI→Bool
 | _,[]=>true
 | last,(a,f)::t=>(decide (0≤a) && decide (a≤g) && decide (last<f) && decide (f≤1048576)) && bK g f t
def bL (g:Int)(l:bI):Bool:=bK g (-1) l && decide (0≤g) && decide (g≤99999999) && decide (1≤l.length) && decide (l.length≤64)
theorem bM {g last:Int}{l:bI}{k:Nat}(hk:k<l.length):bK g last (l.drop k)=((decide (0≤l[k].1) && decide (l[k].1≤g) && decide (last<l[k].2) && decide (l[k].2≤1048576)) && bK g l[k].2 (l.drop (k+1))):=by
 rw[List.drop_eq_getElem_cons hk];rfl
theorem bN {g last A F:Int}{l r:bI}(h:bK g (-1) l=bK g last r){r':bI}(h2:bK g last r=((decide (0≤A) && decide (A≤g) && decide (last<F) && decide (F≤1048576)) && bK g F r'))
  (hc:A<0∨g<A∨F≤last∨1048576<F):false=bL g l:=by
 have:(decide (0≤A) && decide (A≤g) && decide (last<F) && decide (F≤1048576))=false:=by
  rw[Bool.eq_false_iff];intro hx;simp only[Bool.and_eq_true,decide_eq_true_eq]at hx;omega
 unfold bL;rw[h,h2,this];rfl
theorem bO {g last A F:Int}{l r:bI}(h:bK g (-1) l=bK g last r){r':bI}(h2:bK g last r=((decide (0≤A) && decide (A≤g) && decide (last<F) && decide (F≤1048576)) && bK g F r'))
  (h1:0≤A) (h3:A≤g) (h4:last<F) (h5:F≤1048576):bK g (-1) l=bK g F r':=by
 rw[h,h2];simp[h1,h3,h4,h5]
theorem bP {g last:Int}{l r:bI}(h:bK g (-1) l=bK g last r)(hr:r=[]):bL g l=(decide (0≤g) && decide (g≤99999999) && decide (1≤l.length) && decide (l.length≤64)):=by
 subst hr;unfold bL;rw[h];rfl
theorem bQ (w:World)(g:Int)(sv:Value)(l:bI)(hs:bJ w sv l)(hl:l.length≤1099511627776) :
  Calls prog 79 #[.agg #[.int .i64 g,sv]] w λe w'=>e = .returned (.bool (bL g l))∧Below w.heap.size w w':=by
 obtain⟨a,c,rfl⟩:=hs.shape;have HS:=hid hs;clear hs
 go_enter func79,ntmps79
 go_wp2
 go_loopw [3,9] (λx i wr=>∃(k:Nat) (last:Int),k≤l.length∧i = .int .i64 k∧x = .int .i64 last∧bK g (-1) l=bK g last (l.drop k)∧Below (w.heap.size+1) (w.alloc (.cells #[.int .i64 g,.slice a l.length c] 42)) wr) (λ_ i _=>l.length-(intOf i).toNat)
 case atStart=>exact⟨0,-1,by omega,rfl,rfl,rfl,Below.refl _ _⟩
 case round=>
  obtain⟨k,last,hk,rfl,rfl,hok,hb⟩:=hrel;have HOK:=hid hok;clear hok;have hsz:=hb.size;simp at hsz;have hsz2:w.heap.size<wr.heap.size:=by omega
  have hc3:wr.cell? ⟨w.heap.size,0,none⟩=some (.int .i64 g):=by rw[hb.cell (by show w.heap.size<_;omega),World.cell?_alloc_at _ _ _ _ rfl];rfl
  have hc4:wr.cell? ⟨w.heap.size,1,none⟩=some (.slice a l.length c):=by rw[hb.cell (by show w.heap.size<_;omega),World.cell?_alloc_at _ _ _ _ rfl];rfl
  by_cases hlt:k<l.length
  ·have HST:=hid (bM (g:=g) (last:=last) hlt)
   obtain⟨b,o,rfl,h1,h2,hbl⟩:=HS.out.at k hlt;have hc1:wr.cell? ⟨b,o+k*2,none⟩=some (.int .i64 l[k].1):=by rw[hb.cell (by show b<_;omega),World.cell?_alloc_past _ _ _ hbl];exact h1
   have hc2:wr.cell? ⟨b,o+k*2+1,none⟩=some (.int .i64 l[k].2):=by rw[hb.cell (by show b<_;omega),World.cell?_alloc_past _ _ _ hbl];exact h2
   clear h1 h2
   generalize l[k].1=A at *
   generalize l[k].2=F at *
   go_wp2
   all_goals first
    | (go_ret;exact⟨ay (bN HOK.out HST.out (by omega)),(ax hb).alloc (by omega) _⟩)
    | (go_roundw;(case rel=>exact⟨k+1,F,by omega,by go_num,rfl,bO HOK.out HST.out (by omega) (by omega) (by omega) (by omega),hb.alloc (by omega) _⟩);(case measure=>simp[intOf];omega))
  ·have HE:=hid (bP HOK.out (List.drop_eq_nil_of_le (by omega)))
   go_wp2
   all_goals (go_ret;refine⟨ay (by rw[HE.out,Bool.eq_iff_iff];simp only[Bool.and_eq_true,decide_eq_true_eq,Bool.false_eq_true,false_iff];omega),ax hb⟩)
theorem aO.alloc {p:Nat}{w w1:World}{v v1:Value}{L:List UInt8}(h:aO p w w1 v v1 L)(o:Obj):aO p w (w1.alloc o) v v1 L:=
 ⟨h.is.kept (S:=λ_=>False) ((Fr.refl _ _).alloc o) (λhf=>hf) (λ_ _ hf=>hf),h.fr.alloc o,h.went⟩
theorem aO.start {p:Nat}{w:World}{v:Value}{L:List UInt8}(h:aN w p v L):aO p w w v v L:=⟨h,Fr.refl _ _,aA.refl _ _⟩
theorem aN.fresh (w:World):aN (w.alloc (.cells #[.slice none 0 0] 180)) w.heap.size (.slice none 0 0) []:=⟨heap_alloc_new _ _,World.ownsRow_nil _ _ _ _,by simp[Value.ownBlock]⟩
theorem aO.cell {p:Nat}{wa wr:World}{v:Value}{L:List UInt8}(h:aO p wa wr (.slice none 0 0) v L){b o:Nat}{x:Value}(hb:wa.cell? ⟨b,o,none⟩=some x)(hne:b≠p):wr.cell? ⟨b,o,none⟩=some x:=
 h.fr.cellAt hb (λk=>k.elim hne (by simp[Value.ownBlock]))
theorem gx (w:World)(p:Nat)(s:ByteArray)(st:bc)(h:bd w p s st) :
  Calls prog 123 #[.pointer (some ⟨p,0,none⟩)] w λe w'=>∃(n:Nat) (st':bc),st.fixed s.data.toList 8=(n,st')∧e = .returned (.int .u64 (n:Int))∧bd w' p s st'∧Fr (λk=>k=p) w w':=
 (bB w p s st h).mono λ_ _ ⟨he,h1,h2⟩=>⟨_,_,rfl,he,h1,h2⟩
theorem gy (w:World)(p:Nat)(s:ByteArray)(st:bc)(h:bd w p s st)(n:Nat)(hn:n≤1099511627776) :
  Calls prog 122 #[.pointer (some ⟨p,0,none⟩),.int .i64 (n:Int)] w λe w'=>∃(r:ByteArray) (st':bc),r.data.toList=(st.take s.data.toList n).1∧(st.take s.data.toList n).2.2=st'∧e = .returned (.string r)∧bd w' p s st'∧Fr (λk=>k=p) w w':=
 (bu w p s st h n hn).mono λ_ _ ⟨r,hr,he,h1,h2⟩=>⟨r,_,hr,rfl,he,h1,h2⟩
theorem gA (st:bc)(s:List UInt8){n:Nat}{st':bc}(h:st.fixed s 8=(n,st')):n<18446744073709551616:=by
 have h1:n=val (st.take s 8).1:=by have:=congrArg Prod.fst h;exact this.symm
 rw[h1];exact Nat.lt_of_lt_of_le (bn _) (Nat.pow_le_pow_right (by decide:0<256) (bt st s 8))
theorem gZ (k n:Nat)(h:n<256 ^ k):val (be k n)=n:=by
 induction k generalizing n with
 | zero=>simp at h;subst h;rfl
 | succ k ih=>
  simp only[be];rw[bj,ih (n / 256) (by rw[Nat.pow_succ]at h;omega)];have:(UInt8.ofNat (n % 256)).toNat=n % 256:=by simp
  rw[this];omega
theorem g9 (l:List UInt8):be l.length (val l)=l:=by
 suffices h:∀(n:Nat) (l:List UInt8),l.length=n→be n (val l)=l from h _ l rfl
 intro n
 induction n with
 | zero=>intro l h;rw[List.eq_nil_of_length_eq_zero h];rfl
 | succ n ih=>
  intro l h;have hne:l≠[]:=by intro e;subst e;simp at h
  have e:=List.dropLast_concat_getLast hne
  generalize l.dropLast=a at e
  generalize l.getLast hne=x at e
  subst e;have hx:=x.toNat_lt;simp only[be];rw[bj,show(val a*256+x.toNat) / 256=val a from by omega,ih a (by simpa using h),show(val a*256+x.toNat) % 256=x.toNat from by omega];simp
theorem hU {st:bc}{t rest:List UInt8}{k n:Nat}(he:st.e=0)(ht:t.drop st.at_=be k n++rest)(hn:n<256 ^ k) :
  st.fixed t k=(n,⟨st.at_+k,0,st.tow⟩)∧t.drop (st.at_+k)=rest:=by
 have hl:k≤t.length-st.at_:=by
  have:=congrArg List.length ht;rw[List.length_drop,List.length_append,aF]at this;omega
 constructor
 ·unfold bc.fixed bc.take
  rw[if_neg (λh=>h he),if_neg (by omega),ht,he];simp only;rw[List.take_left' (aF k n),gZ k n hn]
 ·rw[← List.drop_drop,ht,List.drop_left' (aF k n)]
theorem hZ {st st':bc}{t:List UInt8}{k n:Nat}(h:st.fixed t k=(n,st'))(he:st'.e=0) :
  st.e=0∧st'.at_=st.at_+k∧t.drop st.at_=be k n++t.drop (st.at_+k)∧n<256 ^ k:=by
 unfold bc.fixed at h;simp only[Prod.mk.injEq]at h;obtain⟨h1,h2⟩:=h;unfold bc.take at h1 h2
 split at h2
 ·rename_i hne;simp only at h2;subst h2;exact absurd he hne
 ·rename_i hne
  have hne:st.e=0:=Classical.not_not.1 hne
  split at h2
  ·simp only at h2;subst h2;exact absurd he (by simp)
  ·rename_i hlt
   simp only at h2;rw[if_neg (λhx=>hx hne),if_neg hlt]at h1;simp only at h1;have hl:((t.drop st.at_).take k).length=k:=by rw[List.length_take,List.length_drop];omega
   refine⟨hne,by rw[← h2],?_,?_⟩
   ·have:=g9 ((t.drop st.at_).take k)
    rw[hl,h1]at this;rw[this,← List.drop_drop,List.take_append_drop]
   ·rw[← h1];have:=bn ((t.drop st.at_).take k);rwa [hl]at this
theorem nl (n:Nat)(p:Nat)(v:Value)(L:List UInt8)(w:World)(hn:n<4294967296)(h:aN w p v L)(hL:L.length≤1073741824) :
  Calls prog 111 #[.pointer (some ⟨p,0,none⟩),.int .u32 (n:Int)] w λe w'=>e = .returned (.tuple #[])∧∃v',aO p w w' v v' (L++be 4 n):=by
 have H:=hid h;clear h
 go_enter func111,ntmps111
 go_wp2_with fail
 refine(aU n p v L _ H.out hL).mono ?_;rintro e w1 ⟨rfl,h1⟩;have H1:=hid h1;clear h1;go_wp2
 go_end0
 exact⟨rfl,H1.out⟩
theorem np {l:List UInt8}(h:l.length≤4):val l<4294967296:=by
 have h1:=bn l;have h2:256 ^ l.length≤256 ^ 4:=Nat.pow_le_pow_right (by decide) h;exact Nat.lt_of_lt_of_le h1 h2
theorem nr (w:World)(p:Nat)(s:ByteArray)(st:bc)(h:bd w p s st) :
  Calls prog 265 #[.pointer (some ⟨p,0,none⟩),.int .i64 4] w λe w'=>e = .returned (.int .u32 ((st.fixed s.data.toList 4).1:Int))∧bd w' p s (st.fixed s.data.toList 4).2∧Fr (λk=>k=p) w w':=by
 unfold bc.fixed;have H:=hid h;clear h
 go_enter func265,ntmps265
 go_wp2_with fail
 refine(bi _ p s st H.out 4 (by omega)).mono ?_;rintro e w1 ⟨r,hr,rfl,h1,hf1⟩;have hrs:r.size≤4:=by rw[ao hr];exact bt st s.data.toList 4
 have HR:=hid hr;have H1:=hid h1;clear hr h1;go_wp2
 go_loop [7,17] (λv i=>∃(j n:Nat),j≤r.size∧i = .int .i64 j∧v = .int .u64 (n:Int)∧n=val (r.data.toList.take j)) (λ_ i=>r.size-(intOf i).toNat)
 case atStart=>exact⟨0,0,by omega,rfl,rfl,rfl⟩
 case round=>
  obtain⟨j,n,hj,rfl,rfl,hn⟩:=hrel;by_cases hlt:j<r.size
  ·have hb7:n<72057594037927936:=by rw[hn];exact bp (by rw[List.length_take];omega)
   have HO:=hid (bw n r[j] hb7);have HN:=hid hn;clear hn;go_wp2
   go_round
   case rel=>exact⟨j+1,n*256+r[j].toNat,by omega,by go_num,by rw[HO.out],by rw[bz r j hlt,HN.out]⟩
   case measure=>simp[intOf];omega
  ·have hb2:n<4294967296:=by rw[hn];exact np (by rw[List.length_take,ak];omega)
   have HN:=hid hn;clear hn;go_wp2;go_ret;exact⟨by rw[← HR.out,HN.out,List.take_of_length_le (by rw[ak];omega)];rfl,H1.out,hf1⟩
theorem nt (w:World)(p:Nat)(s:ByteArray)(st:bc)(h:bd w p s st) :
  Calls prog 187 #[.pointer (some ⟨p,0,none⟩)] w λe w'=>e = .returned (.int .u32 ((st.fixed s.data.toList 4).1:Int))∧bd w' p s (st.fixed s.data.toList 4).2∧Fr (λk=>k=p) w w':=by
 have H:=hid h;clear h
 go_enter func187,ntmps187
 go_wp2_with fail
 refine(nr _ p s st H.out).mono ?_;rintro e w1 ⟨rfl,h1,hf1⟩;have H1:=hid h1;clear h1;go_wp2;go_ret;exact⟨rfl,H1.out,hf1⟩
theorem nu (st:bc)(s:List UInt8):(st.fixed s 4).1<4294967296:=np (bt st s 4)
theorem nw (w:World)(p:Nat)(s:ByteArray)(st:bc)(h:bd w p s st) :
  Calls prog 187 #[.pointer (some ⟨p,0,none⟩)] w λe w'=>∃(n:Nat) (st':bc),st.fixed s.data.toList 4=(n,st')∧n<4294967296∧e = .returned (.int .u32 (n:Int))∧bd w' p s st'∧Fr (λk=>k=p) w w':=
 (nt w p s st h).mono λ_ _ ⟨h1,h2,h3⟩=>⟨_,_,rfl,nu _ _,h1,h2,h3⟩
end
end Go.Proofs.YthjjgcfdhkhelaaGreatDoor
