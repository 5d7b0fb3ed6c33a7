/- The walk of wire.Reader's Short. -/
import Derived.Test.YtaeakdichkhjaaaGreatDoorChecked
import Derived.Test.YtaeakdichkhjaaaGreatDoorQAa
import Derived.Deep.QuietTactic
import Derived.BigQuiet
import Derived.Lib.EndianBits
set_option maxHeartbeats 4000000
open Go.Lib(hid)
namespace Go.Proofs.YtaeakdichkhjaaaGreatDoor
section
open Go.RowKit
def be:Nat→Nat→List UInt8
 | 0,_=>[]
 | k+1,n=>be k (n / 256)++[UInt8.ofNat (n % 256)]
theorem aY (k n:Nat):(be k n).length=k:=by induction k generalizing n with
 | zero=>rfl
 | succ k ih=>simp[be,ih]
theorem aZ (x:Nat):u8v (UInt8.ofNat (x % 256)) = .int .u8 ((x % 256:Nat):Int):=by
 unfold u8v;congr 2;simp
theorem bd (k m n:Nat):be (k+m) n=be k (n / 256 ^ m)++be m n:=by
 induction m generalizing n with
 | zero=>simp[be]
 | succ m ih=>
  rw[← Nat.add_assoc];simp only[be];rw[ih,List.append_assoc,Nat.pow_succ,Nat.mul_comm,Nat.div_div_eq_div_mul]
theorem bf (n:Nat):[Value.int .u8 ((n:Int) % 256)]=(be 1 n).map u8v:=by
 simp only[be,List.nil_append,List.map_cons,List.map_nil,aZ];rfl
theorem bg (n:Nat):[Value.int .u8 ((n:Int) / 256 % 256)]=(be 1 (n / 256)).map u8v:=by
 rw[← bf];rfl
theorem bh (n:Nat):[Value.int .u8 ((n:Int) / 16777216 % 256),Value.int .u8 ((n:Int) / 65536 % 256)]=(be 2 (n / 65536)).map u8v:=by
 simp only[be,List.nil_append,List.map_cons,List.map_nil,List.cons_append,aZ];have e1:(n:Int) / 16777216 % 256=((n / 65536 / 256 % 256:Nat):Int):=by omega
 have e2:(n:Int) / 65536 % 256=((n / 65536 % 256:Nat):Int):=by omega
 rw[e1,e2]
theorem bi (n:Nat)(hn:n<18446744073709551616):[Value.int .u8 ((n:Int) / 72057594037927936),Value.int .u8 ((n:Int) / 281474976710656 % 256),Value.int .u8 ((n:Int) / 1099511627776 % 256),Value.int .u8 ((n:Int) / 4294967296 % 256)]=(be 4 (n / 4294967296)).map u8v:=by
 simp only[be,List.nil_append,List.map_cons,List.map_nil,List.cons_append,aZ];have e1:(n:Int) / 72057594037927936=((n / 4294967296 / 256 / 256 / 256 % 256:Nat):Int):=by omega
 have e2:(n:Int) / 281474976710656 % 256=((n / 4294967296 / 256 / 256 % 256:Nat):Int):=by omega
 have e3:(n:Int) / 1099511627776 % 256=((n / 4294967296 / 256 % 256:Nat):Int):=by omega
 have e4:(n:Int) / 4294967296 % 256=((n / 4294967296 % 256:Nat):Int):=by omega
 rw[e1,e2,e3,e4]
theorem be2 (n:Nat)(L:List UInt8):(L++be 1 (n / 256))++be 1 n=L++be 2 n:=by
 rw[List.append_assoc,← show be 2 n=be 1 (n / 256)++be 1 n from bd 1 1 n]
theorem be4 (n:Nat)(L:List UInt8):((L++be 2 (n / 65536))++be 1 (n / 256))++be 1 n=L++be 4 n:=by
 rw[be2,List.append_assoc,← show be 4 n=be 2 (n / 65536)++be 2 n from bd 2 2 n]
theorem be8 (n:Nat)(L:List UInt8):(((L++be 4 (n / 4294967296))++be 2 (n / 65536))++be 1 (n / 256))++be 1 n=L++be 8 n:=by
 rw[be4,List.append_assoc,← show be 8 n=be 4 (n / 4294967296)++be 4 n from bd 4 4 n]
theorem bj {L:List UInt8}{a:Nat}(m n:Nat)(h:L.length≤a):(L++be m n).length≤a+m:=by rw[List.length_append,aY];omega
structure IsWr (w:World) (p:Nat) (v:Value) (L:List UInt8):Prop where
 cell:w.heap[p]?=some (.cells #[v] 155 (0,0))
 own:w.ownsRow 0 5 1 v L.length (L.map u8v)
 ne:v.ownBlock≠some p
structure WrTo (p:Nat) (w w':World) (v v':Value) (L:List UInt8):Prop where
 is:IsWr w' p v' L
 fr:Fr (λk=>k=p∨v.ownBlock=some k) w w'
 went:Went w v v'
theorem IsWr.lt {w:World}{p:Nat}{v:Value}{L:List UInt8}(h:IsWr w p v L):p<w.heap.size:=lt_of_block h.cell
theorem IsWr.kept {S:Nat→Prop}{w w':World}{p:Nat}{v:Value}{L:List UInt8}(h:IsWr w p v L)(hf:Fr S w w')(hp:¬S p)(ho:∀g,v.ownBlock=some g→¬S g):IsWr w' p v L:=
 ⟨hf.heapAt h.cell hp,hf.ownsRow h.own ho,h.ne⟩
theorem WrTo.trans {p:Nat}{w w1 w2:World}{v v1 v2:Value}{L1 L2:List UInt8}(h:WrTo p w w1 v v1 L1)(k:WrTo p w1 w2 v1 v2 L2):WrTo p w w2 v v2 L2:=
 ⟨k.is,h.fr.then k.fr (λ_ hi e=>e.imp id (λe=>h.went.old hi e)),h.went.trans k.went h.fr.size⟩
theorem Tryz.infoU8:(Tryz.prog.info? 5).map (λi=>(i.zero,i.size,i.bytes))=some (some (.int .u8 0),1,1):=by kernel_rfl
theorem bl {w w1:World}{p:Nat}{v v1:Value}{L:List UInt8}{m:Nat}{C:List Value}{B:List UInt8}(o:Obj)(h:IsWr w p v L)(hC:C=B.map u8v)(hm:m=B.length)
  (hown:w1.ownsRow 0 5 1 v1 (L.length+m) (L.map u8v++C)) (hg:(w.alloc o).grownBy w1 v.ownBlock) (hw:v1.ownBlock=v.ownBlock∨v1.ownBlock=some (w.alloc o).heap.size) :
  WrTo p w (w1.setCell ⟨p,0,none⟩ v1) v v1 (L++B):=by
 have hp:=h.lt;have hne:v1.ownBlock≠some p:=by
  rcases hw with hw|hw
  ·rw[hw];exact h.ne
  ·rw[hw];intro e;have:=Option.some.inj e;simp at this;omega
 have hcell:w1.heap[p]?=some (.cells #[v] 155 (0,0)):=by
  rw[hg.block p (by simp;omega) (λe=>h.ne e.symm),Below.heap_alloc _ _ _ hp];exact h.cell
 have hfr:Fr (λk=>k=p∨v.ownBlock=some k) w w1:=((Fr.refl _ w).alloc o).grown hg (λk _ e=>.inr e);subst hC hm;refine⟨⟨one_setCell hcell,?_,hne⟩,hfr.setCell _ (λ_=>.inl rfl) _,?_⟩
 ·have:=ownsRow_setCell_other hown (a:=⟨p,0,none⟩) hne v1
  rw[List.length_append,List.map_append];exact this
 ·rcases hw with hw|hw
  ·exact .inl hw
  ·exact .inr ⟨_,hw,by simp⟩
theorem bn {w w1:World}{p:Nat}{v:Value}{L:List UInt8}{o:Obj}(h:IsWr w p v L)(hg:(w.alloc o).grownBy w1 v.ownBlock):w1.heap[p]?=some (.cells #[v] 155 (0,0)):=by
 have hp:=h.lt;rw[hg.block p (by simp;omega) (λe=>h.ne e.symm),Below.heap_alloc _ _ _ hp];exact h.cell
theorem bp {w w1:World}{p:Nat}{v v1:Value}{L:List UInt8}{s:ByteArray}(h:IsWr w p v L)
  (hown:w1.ownsRow 0 5 1 v1 (L.length+s.size) (L.map u8v++Lib.strCells s)) (hg:w.grownBy w1 v.ownBlock) (hw:Went w v v1) :
  WrTo p w (w1.setCell ⟨p,0,none⟩ v1) v v1 (L++s.data.toList):=by
 have hp:=h.lt;have hne:v1.ownBlock≠some p:=λe=>h.ne (hw.old hp e);have hcell:w1.heap[p]?=some (.cells #[v] 155 (0,0)):=by
  rw[hg.block p hp (λe=>h.ne e.symm)];exact h.cell
 have hfr:Fr (λk=>k=p∨v.ownBlock=some k) w w1:=(Fr.refl _ w).grown hg (λk _ e=>.inr e);refine⟨⟨one_setCell hcell,?_,hne⟩,hfr.setCell _ (λ_=>.inl rfl) _,hw⟩;have:=ownsRow_setCell_other hown (a:=⟨p,0,none⟩) hne v1;rw[List.length_append,List.map_append,am];exact this
set_option maxRecDepth 100000 in
theorem bq (n:Nat)(p:Nat)(v:Value)(L:List UInt8)(w:World)(h:IsWr w p v L)(hL:L.length≤1073741824) :
  Calls Tryz.prog 114 #[.pointer (some ⟨p,0,none⟩),.int .u64 (n:Int),.int .i64 1] w λe w'=>e = .returned (.tuple #[])∧∃v',WrTo p w w' v v' (L++be 1 n):=by
 have hc:=cell_of_one h.cell;have hf:=free_of_one h.cell;have H:=hid h;have hlt:=h.lt;obtain⟨i0,hi,hz0,hz1,hz2⟩:=info_parts Tryz.infoU8;have HI:=hid hi;have HZ0:=hid hz0;have HZ1:=hid hz1;have HZ2:=hid hz2;clear h hi hz0 hz1 hz2;have tok1:True:=trivial
 go_enter Tryz.func114,Tryz.ntmps114
 go_wp2_with (first
  | (at_builtin;have _t:=tok1;refine wpList_append_own_at _ rfl _ _ 153 rfl 0 5 i0 (.int .u8 0) 1 1 Tryz.underlying153 HI.out HZ0.out HZ1.out HZ2.out rfl (by decide) _ _ _ rfl (H.out.own.alloc _) ⟨w.heap.size,0,none⟩ 1 1 [.int .u8 ((n:Int) % 256)] rfl rfl (aE rfl (by simp)) (by simp[Value.oneCell']) (by unfold maxLen;omega) (by omega) (Nat.zero_le _) ?_;intro v1 w1 hown1 hg1 _ hw1;obtain⟨a1,n1,c1,rfl⟩:=aD hown1;have hc1:=cell_of_one (bn H.out hg1);have hf1:=free_of_one (bn H.out hg1);have H1:=hid (bl _ H.out (bf n) (aY 1 n).symm hown1 hg1 hw1);have hl1:=bj 1 n hL;clear tok1))
 go_end0
 exact⟨rfl,_,H1.out⟩
set_option maxRecDepth 100000 in
theorem br (n:Nat)(p:Nat)(v:Value)(L:List UInt8)(w:World)(h:IsWr w p v L)(hL:L.length≤1073741824) :
  Calls Tryz.prog 114 #[.pointer (some ⟨p,0,none⟩),.int .u64 (n:Int),.int .i64 4] w λe w'=>e = .returned (.tuple #[])∧∃v',WrTo p w w' v v' (L++be 4 n):=by
 have hc:=cell_of_one h.cell;have hf:=free_of_one h.cell;have H:=hid h;have hlt:=h.lt;obtain⟨i0,hi,hz0,hz1,hz2⟩:=info_parts Tryz.infoU8;have HI:=hid hi;have HZ0:=hid hz0;have HZ1:=hid hz1;have HZ2:=hid hz2;clear h hi hz0 hz1 hz2;have tok1:True:=trivial;have tok2:True:=trivial;have tok3:True:=trivial
 go_enter Tryz.func114,Tryz.ntmps114
 go_wp2_with (first
  | (at_builtin;have _t:=tok1;refine wpList_append_own_at _ rfl _ _ 153 rfl 0 5 i0 (.int .u8 0) 1 1 Tryz.underlying153 HI.out HZ0.out HZ1.out HZ2.out rfl (by decide) _ _ _ rfl (H.out.own.alloc _) ⟨w.heap.size,0,none⟩ 2 2 [.int .u8 ((n:Int) / 16777216 % 256),.int .u8 ((n:Int) / 65536 % 256)] rfl rfl (aE rfl (by simp)) (by simp[Value.oneCell']) (by unfold maxLen;omega) (by omega) (Nat.zero_le _) ?_;intro v1 w1 hown1 hg1 _ hw1;obtain⟨a1,n1,c1,rfl⟩:=aD hown1;have hc1:=cell_of_one (bn H.out hg1);have hf1:=free_of_one (bn H.out hg1);have H1:=hid (bl _ H.out (bh n) (aY 2 (n / 65536)).symm hown1 hg1 hw1);have hl1:=bj 2 (n / 65536) hL;clear tok1)
  | (at_builtin;have _t:=tok2;refine wpList_append_own_at _ rfl _ _ 153 rfl 0 5 i0 (.int .u8 0) 1 1 Tryz.underlying153 HI.out HZ0.out HZ1.out HZ2.out rfl (by decide) _ _ _ rfl (H1.out.is.own.alloc _) ⟨w1.heap.size,0,none⟩ 1 1 [.int .u8 ((n:Int) / 256 % 256)] rfl rfl (aE rfl (by simp)) (by simp[Value.oneCell']) (by unfold maxLen;omega) (by omega) (Nat.zero_le _) ?_;intro v2 w2 hown2 hg2 _ hw2;obtain⟨a2,n2,c2,rfl⟩:=aD hown2;have hc2:=cell_of_one (bn H1.out.is hg2);have hf2:=free_of_one (bn H1.out.is hg2);have H2:=hid (bl _ H1.out.is (bg n) (aY 1 (n / 256)).symm hown2 hg2 hw2);have hl2:=bj 1 (n / 256) hl1;clear tok2)
  | (at_builtin;have _t:=tok3;refine wpList_append_own_at _ rfl _ _ 153 rfl 0 5 i0 (.int .u8 0) 1 1 Tryz.underlying153 HI.out HZ0.out HZ1.out HZ2.out rfl (by decide) _ _ _ rfl (H2.out.is.own.alloc _) ⟨w2.heap.size,0,none⟩ 1 1 [.int .u8 ((n:Int) % 256)] rfl rfl (aE rfl (by simp)) (by simp[Value.oneCell']) (by unfold maxLen;omega) (by omega) (Nat.zero_le _) ?_;intro v3 w3 hown3 hg3 _ hw3;obtain⟨a3,n3,c3,rfl⟩:=aD hown3;have hc3:=cell_of_one (bn H2.out.is hg3);have hf3:=free_of_one (bn H2.out.is hg3);have H3:=hid (bl _ H2.out.is (bf n) (aY 1 n).symm hown3 hg3 hw3);have hl3:=bj 1 n hl2;clear tok3))
 go_end0
 exact⟨rfl,_,be4 n L▸((H1.out).trans H2.out).trans H3.out⟩
set_option maxRecDepth 100000 in
theorem bs (n:Nat)(p:Nat)(v:Value)(L:List UInt8)(w:World)(hn:n<18446744073709551616)(h:IsWr w p v L)(hL:L.length≤1073741824) :
  Calls Tryz.prog 114 #[.pointer (some ⟨p,0,none⟩),.int .u64 (n:Int),.int .i64 8] w λe w'=>e = .returned (.tuple #[])∧∃v',WrTo p w w' v v' (L++be 8 n):=by
 have HC4:=hid (bi n hn);have hc:=cell_of_one h.cell;have hf:=free_of_one h.cell;have H:=hid h;have hlt:=h.lt;obtain⟨i0,hi,hz0,hz1,hz2⟩:=info_parts Tryz.infoU8;have HI:=hid hi;have HZ0:=hid hz0;have HZ1:=hid hz1;have HZ2:=hid hz2;clear h hi hz0 hz1 hz2;have tok1:True:=trivial;have tok2:True:=trivial;have tok3:True:=trivial;have tok4:True:=trivial
 go_enter Tryz.func114,Tryz.ntmps114
 go_wp2_with (first
  | (at_builtin;have _t:=tok1;refine wpList_append_own_at _ rfl _ _ 153 rfl 0 5 i0 (.int .u8 0) 1 1 Tryz.underlying153 HI.out HZ0.out HZ1.out HZ2.out rfl (by decide) _ _ _ rfl (H.out.own.alloc _) ⟨w.heap.size,0,none⟩ 4 4 [.int .u8 ((n:Int) / 72057594037927936),.int .u8 ((n:Int) / 281474976710656 % 256),.int .u8 ((n:Int) / 1099511627776 % 256),.int .u8 ((n:Int) / 4294967296 % 256)] rfl rfl (aE rfl (by simp)) (by simp[Value.oneCell']) (by unfold maxLen;omega) (by omega) (Nat.zero_le _) ?_;intro v1 w1 hown1 hg1 _ hw1;obtain⟨a1,n1,c1,rfl⟩:=aD hown1;have hc1:=cell_of_one (bn H.out hg1);have hf1:=free_of_one (bn H.out hg1);have H1:=hid (bl _ H.out HC4.out (aY 4 (n / 4294967296)).symm hown1 hg1 hw1);have hl1:=bj 4 (n / 4294967296) hL;clear tok1)
  | (at_builtin;have _t:=tok2;refine wpList_append_own_at _ rfl _ _ 153 rfl 0 5 i0 (.int .u8 0) 1 1 Tryz.underlying153 HI.out HZ0.out HZ1.out HZ2.out rfl (by decide) _ _ _ rfl (H1.out.is.own.alloc _) ⟨w1.heap.size,0,none⟩ 2 2 [.int .u8 ((n:Int) / 16777216 % 256),.int .u8 ((n:Int) / 65536 % 256)] rfl rfl (aE rfl (by simp)) (by simp[Value.oneCell']) (by unfold maxLen;omega) (by omega) (Nat.zero_le _) ?_;intro v2 w2 hown2 hg2 _ hw2;obtain⟨a2,n2,c2,rfl⟩:=aD hown2;have hc2:=cell_of_one (bn H1.out.is hg2);have hf2:=free_of_one (bn H1.out.is hg2);have H2:=hid (bl _ H1.out.is (bh n) (aY 2 (n / 65536)).symm hown2 hg2 hw2);have hl2:=bj 2 (n / 65536) hl1;clear tok2)
  | (at_builtin;have _t:=tok3;refine wpList_append_own_at _ rfl _ _ 153 rfl 0 5 i0 (.int .u8 0) 1 1 Tryz.underlying153 HI.out HZ0.out HZ1.out HZ2.out rfl (by decide) _ _ _ rfl (H2.out.is.own.alloc _) ⟨w2.heap.size,0,none⟩ 1 1 [.int .u8 ((n:Int) / 256 % 256)] rfl rfl (aE rfl (by simp)) (by simp[Value.oneCell']) (by unfold maxLen;omega) (by omega) (Nat.zero_le _) ?_;intro v3 w3 hown3 hg3 _ hw3;obtain⟨a3,n3,c3,rfl⟩:=aD hown3;have hc3:=cell_of_one (bn H2.out.is hg3);have hf3:=free_of_one (bn H2.out.is hg3);have H3:=hid (bl _ H2.out.is (bg n) (aY 1 (n / 256)).symm hown3 hg3 hw3);have hl3:=bj 1 (n / 256) hl2;clear tok3)
  | (at_builtin;have _t:=tok4;refine wpList_append_own_at _ rfl _ _ 153 rfl 0 5 i0 (.int .u8 0) 1 1 Tryz.underlying153 HI.out HZ0.out HZ1.out HZ2.out rfl (by decide) _ _ _ rfl (H3.out.is.own.alloc _) ⟨w3.heap.size,0,none⟩ 1 1 [.int .u8 ((n:Int) % 256)] rfl rfl (aE rfl (by simp)) (by simp[Value.oneCell']) (by unfold maxLen;omega) (by omega) (Nat.zero_le _) ?_;intro v4 w4 hown4 hg4 _ hw4;obtain⟨a4,n4,c4,rfl⟩:=aD hown4;have hc4:=cell_of_one (bn H3.out.is hg4);have hf4:=free_of_one (bn H3.out.is hg4);have H4:=hid (bl _ H3.out.is (bf n) (aY 1 n).symm hown4 hg4 hw4);have hl4:=bj 1 n hl3;clear tok4))
 go_end0
 exact⟨rfl,_,be8 n L▸(((H1.out).trans H2.out).trans H3.out).trans H4.out⟩
theorem bt (n:Nat)(p:Nat)(v:Value)(L:List UInt8)(w:World)(hn:n<18446744073709551616)(h:IsWr w p v L)(hL:L.length≤1073741824) :
  Calls Tryz.prog 75 #[.pointer (some ⟨p,0,none⟩),.int .u64 (n:Int)] w λe w'=>e = .returned (.tuple #[])∧∃v',WrTo p w w' v v' (L++be 8 n):=by
 have H:=hid h;clear h
 go_enter Tryz.func75,Tryz.ntmps75
 go_wp2_with fail
 refine(bs n p v L _ hn H.out hL).mono ?_;rintro e w1 ⟨rfl,h1⟩;have H1:=hid h1;clear h1;go_wp2
 go_end0
 exact⟨rfl,H1.out⟩
theorem bu (s:ByteArray)(p:Nat)(v:Value)(L:List UInt8)(w:World)(h:IsWr w p v L)(hL:L.length+s.size≤140737488355328) :
  Calls Tryz.prog 74 #[.pointer (some ⟨p,0,none⟩),.string s] w λe w'=>e = .returned (.tuple #[])∧∃v',WrTo p w w' v v' (L++s.data.toList):=by
 have hc:=cell_of_one h.cell;have hf:=free_of_one h.cell;have H:=hid h;have hlt:=h.lt;obtain⟨i0,hi,hz0,hz1,hz2⟩:=info_parts Tryz.infoU8;have HI:=hid hi;have HZ0:=hid hz0;have HZ1:=hid hz1;have HZ2:=hid hz2;clear h hi hz0 hz1 hz2
 go_enter Tryz.func74,Tryz.ntmps74
 go_wp2_with (at_builtin;refine aG _ rfl _ _ 153 9 rfl 5 i0 Tryz.underlying153 Tryz.underlying9 HI.out HZ0.out HZ1.out HZ2.out v L.length _ rfl H.out.own s rfl (by unfold maxLen;omega) (by omega) ?_;intro v1 w1 hown1 hg1 hw1;have HW:=hid hw1;clear hw1;obtain⟨a1,n1,c1,rfl⟩:=aD hown1;have hc1:=cell_of_one ((hg1.block p hlt (λe=>H.out.ne e.symm)).trans H.out.cell);have hf1:=free_of_one ((hg1.block p hlt (λe=>H.out.ne e.symm)).trans H.out.cell))
 go_end0
 exact⟨rfl,_,bp H.out hown1 hg1 HW.out⟩
theorem bw {w:World}{v:Value}{L:List UInt8}(h:w.ownsRow 0 5 1 v L.length (L.map u8v)):(convert 153 9 v).run Tryz.prog w = .ok (.string ⟨L.toArray⟩) w:=by
 rcases h.2 with⟨hv,hn⟩|⟨g,cap,cur,hv,_⟩
 ·have:L=[]:=List.eq_nil_of_length_eq_zero hn
  subst hv this;rw[run_convert_bytes_nil (P:=Tryz.prog) w 153 5 Tryz.underlying153 Tryz.underlying5 0 0 9 Tryz.underlying9];rfl
 ·subst hv
  refine aj w _ _ _ Tryz.underlying153 Tryz.underlying5 Tryz.underlying9 g 0 L.length cap L rfl (λi hi=>?_);rw[Nat.zero_add,h.cellAt i (by omega)];simp[hi]
theorem bA (p:Nat)(v:Value)(L:List UInt8)(w:World)(h:IsWr w p v L) :
  Calls Tryz.prog 78 #[.pointer (some ⟨p,0,none⟩)] w λe w'=>∃r:ByteArray,r.data.toList=L∧e = .returned (.string r)∧w=w':=by
 have hc:=cell_of_one h.cell;have hconv:=bw h.own;obtain⟨a,n,c,rfl⟩:=aD h.own;obtain⟨q,hq,eq⟩:=ak L;rw[eq]at hconv;have HQ:=hid hq;clear hq eq h
 go_enter Tryz.func78,Tryz.ntmps78
 go_wp2;go_ret;exact⟨q,HQ.out,rfl,rfl⟩
def bB (n:Nat):List UInt8:=if h:n<128 then [UInt8.ofNat n] else UInt8.ofNat (n % 128+128)::bB (n / 128)
termination_by n
decreasing_by omega
theorem bC {n:Nat}(h:n<128):bB n=[UInt8.ofNat n]:=by rw[bB,dif_pos h]
theorem bD {n:Nat}(h:¬n<128):bB n=UInt8.ofNat (n % 128+128)::bB (n / 128):=by rw[bB,dif_neg h]
theorem bE (k n:Nat)(h:n<128 ^ (k+1)):(bB n).length≤k+1:=by
 induction k generalizing n with
 | zero=>rw[bC (by omega)];simp
 | succ k ih=>
  by_cases hs:n<128
  ·rw[bC hs];simp
  ·rw[bD hs,List.length_cons]
   have:=ih (n / 128) (by rw[Nat.pow_succ]at h;omega);omega
theorem bF (n:Nat)(h:n<18446744073709551616):(bB n).length≤10:=bE 9 n (Nat.lt_of_lt_of_le h (by decide))
theorem bG (n:Nat)(h:n<256):be 1 n=[UInt8.ofNat n]:=by
 show[]++[UInt8.ofNat (n % 256)]=_;rw[Nat.mod_eq_of_lt h];rfl
theorem bH (m:Nat):bits .or .u8 ((m:Int) % 256) 128=((m % 128+128:Nat):Int):=by
 have h:∀r:Fin 256,bits .or .u8 ((r.val:Nat):Int) 128=((r.val % 128+128:Nat):Int):=by decide +kernel
 have:=h ⟨m % 256,Nat.mod_lt _ (by decide)⟩;simp only at this;rw[show((m:Int) % 256)=((m % 256:Nat):Int)from by omega,this];congr 2;omega
theorem bI {m:Nat}{L0 L1:List UInt8}{n:Nat}(h:L1++bB m=L0++bB n)(hm:¬m<128):(L1++[UInt8.ofNat (m % 128+128)])++bB (m / 128)=L0++bB n:=by
 rw[← h,bD hm];simp
def bJ (s:List UInt8)(most frm:Nat):Nat→Nat→Nat→RdSt→Nat×RdSt
 | 0,_,_,st=>(0,st)
 | f+1,k,n,st=>
  if (st.take s 1).2.1=false then (0,⟨frm,8,frm⟩)
  else if (k=9∧1<val (st.take s 1).1)∨(0<k∧val (st.take s 1).1=0) then (0,⟨frm,4,frm⟩)
  else if val (st.take s 1).1<128 then (if most<n+val (st.take s 1).1*128 ^ k then (0,⟨frm,40,frm⟩) else (n+val (st.take s 1).1*128 ^ k,(st.take s 1).2.2))
  else bJ s most frm f (k+1) (n+(val (st.take s 1).1-128)*128 ^ k) (st.take s 1).2.2
def RdSt.short (st:RdSt)(s:List UInt8)(most:Nat):Nat×RdSt:=if st.e≠0 then (0,st) else bJ s most st.at_ 10 0 0 st
theorem bK {st:RdSt}{s r:List UInt8}{b:UInt8}(he:st.e=0)(hs:s.drop st.at_=b::r):st.take s 1=([b],true,⟨st.at_+1,st.e,st.tow⟩):=by
 have hl:1≤s.length-st.at_:=by have:=congrArg List.length hs;rw[List.length_drop,List.length_cons]at this;omega
 unfold RdSt.take;rw[if_neg (λh=>h he),if_neg (by omega),hs];rfl
theorem bL {s r:List UInt8}{b:UInt8}{a:Nat}(hs:s.drop a=b::r):s.drop (a+1)=r:=by
 rw[← List.drop_drop,hs];rfl
theorem bM (b:UInt8):val [b]=b.toNat:=by simp[val]
theorem bN {n k:Nat}(h:n*128 ^ k<18446744073709551616)(hk:k=9):n<2:=by
 subst hk;rw[show(128:Nat) ^ 9=9223372036854775808 from by decide]at h;omega
theorem bO {s:List UInt8}{most frm:Nat}:∀(f k n0 n:Nat) (st:RdSt) (rest:List UInt8),st.e=0→k+f=10→n*128 ^ k<18446744073709551616→n<128 ^ f→(0<k→0<n)→n0+n*128 ^ k≤most→s.drop st.at_=bB n++rest →
  bJ s most frm f k n0 st=(n0+n*128 ^ k,⟨st.at_+(bB n).length,st.e,st.tow⟩)
 | 0,k,n0,n,st,rest,he,hk,h9,hn,h0,hm,hs=>by
  have:n=0:=by simpa using hn
  have:=h0 (by omega);omega
 | f+1,k,n0,n,st,rest,he,hk,h9,hn,h0,hm,hs=>by
  by_cases hsm:n<128
  ·rw[bC hsm]at hs ⊢
   have ht:=bK he (show s.drop st.at_=UInt8.ofNat n::rest from hs);have hb:(UInt8.ofNat n).toNat=n:=by simp;omega
   rw[bJ,ht];simp only[bM,hb];rw[if_neg (by decide),if_neg (by
    rintro(⟨h1,h2⟩|⟨h1,h2⟩)
    ·have:=bN h9 h1;omega
    ·have:=h0 h1;omega),if_pos hsm,if_neg (by omega)]
   rfl
  ·rw[bD hsm]at hs ⊢
   have ht:=bK he (show s.drop st.at_=UInt8.ofNat (n % 128+128)::(bB (n / 128)++rest)from hs);have hb:(UInt8.ofNat (n % 128+128)).toNat=n % 128+128:=by simp;omega
   have hk8:k≠9:=λe=>by have:=bN h9 e;omega
   have hpow:n*128 ^ k=n % 128*128 ^ k+n / 128*128 ^ (k+1):=by
    have e:=Nat.div_add_mod n 128
    conv=>lhs;rw[← e]
    rw[Nat.pow_succ,Nat.add_mul];rw[show 128*(n / 128)*128 ^ k=n / 128*(128 ^ k*128)from by rw[Nat.mul_comm 128,Nat.mul_assoc,Nat.mul_comm 128]];omega
   rw[bJ,ht];simp only[bM,hb];rw[if_neg (by decide),if_neg (by
    rintro(⟨h1,h2⟩|⟨h1,h2⟩)
    ·exact hk8 h1
    ·omega),if_neg (by omega),Nat.add_sub_cancel]
   rw[bO f (k+1) (n0+n % 128*128 ^ k) (n / 128) ⟨st.at_+1,st.e,st.tow⟩ rest he (by omega) (by rw[hpow]at h9;omega) (by rw[Nat.pow_succ]at hn;omega) (λ_=>by omega) (by rw[hpow]at hm;omega) (bL hs)];rw[hpow,List.length_cons];simp only[Prod.mk.injEq,RdSt.mk.injEq];exact⟨by omega,by omega,trivial,trivial⟩
theorem bP {s:List UInt8}{most n:Nat}{st:RdSt}{rest:List UInt8}(he:st.e=0)(hn:n<18446744073709551616)(hm:n≤most)(hs:s.drop st.at_=bB n++rest) :
  st.short s most=(n,⟨st.at_+(bB n).length,st.e,st.tow⟩):=by
 unfold RdSt.short;rw[if_neg (λh=>h he),bO 10 0 0 n st rest he rfl (by simpa using hn) (Nat.lt_of_lt_of_le hn (by decide)) (λh=>absurd h (Nat.lt_irrefl _)) (by simpa using hm) hs];simp
theorem bQ (w:World)(p:Nat)(s:ByteArray)(st:RdSt)(h:IsRd w p s st)(n most frm:Nat)(hf:frm≤s.size) :
  Calls Tryz.prog 255 #[.pointer (some ⟨p,0,none⟩),.int .u64 (n:Int),.int .u64 (most:Int),.int .i64 (frm:Int)] w λe w'=>e = .returned (.int .u64 (((if most<n then (0,⟨frm,40,frm⟩) else (n,st)):Nat×RdSt).1:Int))∧IsRd w' p s ((if most<n then (0,⟨frm,40,frm⟩) else (n,st)):Nat×RdSt).2∧Fr (λk=>k=p) w w':=by
 have H:=hid h;clear h;by_cases hm:most<n
 ·rw[if_pos hm]
  go_enter Tryz.func255,Tryz.ntmps255
  go_wp2_with fail
  refine(aJ _ p s st H.out 40 frm hf).mono ?_;rintro e w1 ⟨rfl,h1,hf1⟩;have H1:=hid h1;clear h1;go_wp2;go_ret;exact⟨rfl,H1.out,hf1⟩
 ·rw[if_neg hm]
  go_enter Tryz.func255,Tryz.ntmps255
  go_wp2;go_ret;exact⟨rfl,H.out,Fr.refl _ _⟩
theorem bR {l:List UInt8}(h:l.length≤1):val l<256:=by
 have h1:=aN l;have h2:256 ^ l.length≤256 ^ 1:=Nat.pow_le_pow_right (by decide) h;exact Nat.lt_of_lt_of_le h1 h2
theorem bS (w:World)(p:Nat)(s:ByteArray)(st:RdSt)(h:IsRd w p s st) :
  Calls Tryz.prog 216 #[.pointer (some ⟨p,0,none⟩),.int .i64 1] w λe w'=>e = .returned (.int .u8 ((st.fixed s.data.toList 1).1:Int))∧IsRd w' p s (st.fixed s.data.toList 1).2∧Fr (λk=>k=p) w w':=by
 unfold RdSt.fixed;have H:=hid h;clear h
 go_enter Tryz.func216,Tryz.ntmps216
 go_wp2_with fail
 refine(aK _ p s st H.out 1 (by omega)).mono ?_;rintro e w1 ⟨r,hr,rfl,h1,hf1⟩;have hrs:r.size≤1:=by rw[av hr];exact aP st s.data.toList 1
 have HR:=hid hr;have H1:=hid h1;clear hr h1;go_wp2
 go_loop [7,17] (λv i=>∃(j n:Nat),j≤r.size∧i = .int .i64 j∧v = .int .u64 (n:Int)∧n=val (r.data.toList.take j)) (λ_ i=>r.size-(intOf i).toNat)
 case atStart=>exact⟨0,0,by omega,rfl,rfl,rfl⟩
 case round=>
  obtain⟨j,n,hj,rfl,rfl,hn⟩:=hrel;by_cases hlt:j<r.size
  ·have hb7:n<72057594037927936:=by rw[hn];exact aO (by rw[List.length_take];omega)
   have HO:=hid (aR n r[j] hb7);have HN:=hid hn;clear hn;go_wp2
   go_round
   case rel=>exact⟨j+1,n*256+r[j].toNat,by omega,by go_num,by rw[HO.out],by rw[aS r j hlt,HN.out]⟩
   case measure=>simp[intOf];omega
  ·have hb2:n<256:=by rw[hn];exact bR (by rw[List.length_take,am];omega)
   have HN:=hid hn;clear hn;go_wp2;go_ret;exact⟨by rw[← HR.out,HN.out,List.take_of_length_le (by rw[am];omega)];rfl,H1.out,hf1⟩
theorem bT (w:World)(p:Nat)(s:ByteArray)(st:RdSt)(h:IsRd w p s st) :
  Calls Tryz.prog 153 #[.pointer (some ⟨p,0,none⟩)] w λe w'=>e = .returned (.int .u8 ((st.fixed s.data.toList 1).1:Int))∧IsRd w' p s (st.fixed s.data.toList 1).2∧Fr (λk=>k=p) w w':=by
 have H:=hid h;clear h
 go_enter Tryz.func153,Tryz.ntmps153
 go_wp2_with fail
 refine(bS _ p s st H.out).mono ?_;rintro e w1 ⟨rfl,h1,hf1⟩;have H1:=hid h1;clear h1;go_wp2;go_ret;exact⟨rfl,H1.out,hf1⟩
theorem bU (b:UInt8):bits .andNot .u64 (b.toNat:Int) 128=((b.toNat % 128:Nat):Int):=by
 have h:∀r:Fin 256,bits .andNot .u64 ((r.val:Nat):Int) 128=((r.val % 128:Nat):Int):=by decide +kernel
 exact h ⟨b.toNat,b.toNat_lt⟩
theorem bV (k:Nat):(128:Nat) ^ k=2 ^ (7*k):=by rw[Nat.pow_mul]
theorem bW (m b k:Nat)(hm:m<128 ^ k)(hk:k≤9)(hb:b<128)(h9:k=9→b≤1) :
  bits .or .u64 (m:Int) (IntKind.u64.wrap ((b:Int)*2 ^ (7*k)))=((m+b*128 ^ k:Nat):Int)∧m+b*128 ^ k<18446744073709551616:=by
 have hbig:b*128 ^ k<18446744073709551616:=by
  by_cases h:k=9
  ·subst h
   have:=h9 rfl;rw[show(128:Nat) ^ 9=9223372036854775808 from by decide];omega
  ·have h1:(128:Nat) ^ k≤128 ^ 8:=Nat.pow_le_pow_right (by decide) (by omega)
   have h2:b*128 ^ k≤127*128 ^ 8:=Nat.mul_le_mul (by omega) h1;rw[show(127:Nat)*128 ^ 8=9151314442816847872 from by decide]at h2;omega
 have hsum:m+b*128 ^ k<18446744073709551616:=by
  by_cases h:k=9
  ·subst h
   have:=h9 rfl;rw[show(128:Nat) ^ 9=9223372036854775808 from by decide]at hm ⊢;omega
  ·have h1:(128:Nat) ^ k≤128 ^ 8:=Nat.pow_le_pow_right (by decide) (by omega)
   have h2:b*128 ^ k≤127*128 ^ 8:=Nat.mul_le_mul (by omega) h1;rw[show(127:Nat)*128 ^ 8=9151314442816847872 from by decide]at h2;rw[show(128:Nat) ^ 8=72057594037927936 from by decide]at h1;omega
 refine⟨?_,hsum⟩;have e1:((b:Int)*2 ^ (7*k))=((b*128 ^ k:Nat):Int):=by rw[bV];push_cast;rfl
 rw[e1,show IntKind.u64.wrap ((b*128 ^ k:Nat):Int)=((b*128 ^ k:Nat):Int)from by rw[IntKind.wrap_u64];omega];have hx0:b*128 ^ k % 2 ^ (7*k)=0:=by rw[← bV];exact Nat.mul_mod_left b _
 have hm2:m<2 ^ (7*k):=by rw[← bV];exact hm
 rw[bits_join_low .u64 64 (by decide) (λx h0 h1=>by rw[IntKind.wrap_u64];omega) (7*k) (m:Int) ((b*128 ^ k:Nat):Int) (by omega) (by exact_mod_cast hm2) (by omega) (by omega) (by exact_mod_cast hx0) (by omega)];omega
theorem bX {s:List UInt8}{most frm f k n:Nat}{st:RdSt}(h:(st.take s 1).2.1=false):bJ s most frm (f+1) k n st=(0,⟨frm,8,frm⟩):=by
 rw[bJ,if_pos h]
theorem bY {s:List UInt8}{most frm f k n:Nat}{st:RdSt}(h:(st.take s 1).2.1=true)(hb:(k=9∧1<val (st.take s 1).1)∨(0<k∧val (st.take s 1).1=0)):bJ s most frm (f+1) k n st=(0,⟨frm,4,frm⟩):=by
 rw[bJ,h,if_neg (by decide),if_pos hb]
theorem bZ {s:List UInt8}{most frm f k n:Nat}{st:RdSt}(h:(st.take s 1).2.1=true)(hb:¬((k=9∧1<val (st.take s 1).1)∨(0<k∧val (st.take s 1).1=0)))(hs:val (st.take s 1).1<128) :
  bJ s most frm (f+1) k n st=(if most<n+val (st.take s 1).1*128 ^ k then (0,⟨frm,40,frm⟩) else (n+val (st.take s 1).1*128 ^ k,(st.take s 1).2.2)):=by
 rw[bJ,h,if_neg (by decide),if_neg hb,if_pos hs]
theorem ca {s:List UInt8}{most frm f k n:Nat}{st:RdSt}(h:(st.take s 1).2.1=true)(hb:¬((k=9∧1<val (st.take s 1).1)∨(0<k∧val (st.take s 1).1=0)))(hs:¬val (st.take s 1).1<128) :
  bJ s most frm (f+1) k n st=bJ s most frm f (k+1) (n+(val (st.take s 1).1-128)*128 ^ k) (st.take s 1).2.2:=by
 rw[bJ,h,if_neg (by decide),if_neg hb,if_neg hs]
theorem cc {st:RdSt}{s:List UInt8}(h:(st.take s 1).2.1=true):(st.take s 1).1.length=1∧(st.take s 1).2.2.e=0:=by
 unfold RdSt.take at h ⊢
 split
 ·rename_i h1;rw[if_pos h1]at h;cases h
 ·rename_i h1
  rw[if_neg h1]at h
  split
  ·rename_i h2;rw[if_pos h2]at h;cases h
  ·rename_i h2
   refine⟨by simp;omega,?_⟩;show st.e=0;exact Classical.not_not.1 h1
set_option maxRecDepth 100000 in
theorem cf (w:World)(p:Nat)(s:ByteArray)(st:RdSt)(h:IsRd w p s st)(most:Nat) :
  Calls Tryz.prog 215 #[.pointer (some ⟨p,0,none⟩),.int .u64 (most:Int)] w λe w'=>e = .returned (.int .u64 ((st.short s.data.toList most).1:Int))∧IsRd w' p s (st.short s.data.toList most).2∧Fr (λk=>k=p) w w':=by
 obtain⟨R,hR⟩:∃R,R=st.short s.data.toList most:=⟨_,rfl⟩;rw[← hR];by_cases he:st.e=0
 ·have HS:=hid (show ∃f,0+f=10∧R=bJ s.data.toList most st.at_ f 0 0 st from⟨10,rfl,by rw[hR];unfold RdSt.short;rw[if_neg (λhx=>hx he)]⟩)
  clear hR;have hat:=h.2.1;have hss:=h.2.2;obtain⟨c0,c1,c2,c3⟩:=h.cs;have H:=hid h;have HE:=hid he;clear h he;obtain⟨frm,hfrm⟩:∃frm,frm=st.at_:=⟨_,rfl⟩;rw[← hfrm]at hat c1;have HS1:=hid (show ∃f,0+f=10∧R=bJ s.data.toList most frm f 0 0 st from by rw[hfrm];exact HS.out);clear HS hfrm
  go_enter Tryz.func215,Tryz.ntmps215
  go_wp2_with fail
  refine(aI _ p s st H.out true (by rw[HE.out];rfl)).mono ?_;rintro e w1 ⟨rfl,rfl⟩;go_wp2
  go_loopw [6,7] (λn sh wr=>∃(k m:Nat) (sk:RdSt) (z:Int),n = .int .u64 (m:Int)∧sh = .int .i64 z∧k≤9∧Hid (z=7*(k:Int))∧Hid (m<128 ^ k)∧Hid (IsRd wr p s sk)∧Hid (Fr (λk=>k=p) w wr)∧Hid (∃f,k+f=10∧R=bJ s.data.toList most frm f k m sk)) (λ_ sh _=>70-(intOf sh).toNat)
  case atStart=>exact⟨0,0,st,0,rfl,rfl,by omega,hid rfl,hid (by decide),H,hid (Fr.refl _ _),HS1⟩
  case round=>
   obtain⟨k,m,sk,z,rfl,rfl,hk,HZ,HM,HR,HF,HQ⟩:=hrel;have hz0:0≤z:=by have:=HZ.out;omega
   have hz1:z≤63:=by have:=HZ.out;omega
   obtain⟨f,hkf,hq⟩:∃f,k+(f+1)=10∧R=bJ s.data.toList most frm (f+1) k m sk:=by
    obtain⟨f,h1,h2⟩:=HQ.out
    match f,h1,h2 with
    | 0,h1,_=>omega
    | f+1,h1,h2=>exact⟨f,h1,h2⟩
   have HQ1:=hid hq;clear hq HQ
   go_wp2_with fail
   refine(aK wr p s sk HR.out 1 (by omega)).mono ?_;rintro e w2 ⟨r,hr,rfl,h2,hf2⟩;have HF2:=hid (HF.out.trans hf2);have H2:=hid h2;clear hf2 h2;cases ht:(sk.take s.data.toList 1).2.1
   ·have HE2:=hid (HQ1.out.trans (bX ht))
    clear ht hr
    go_wp2_with fail
    refine(aJ w2 p s _ H2.out 8 frm hat).mono ?_;rintro e w3 ⟨rfl,h3,hf3⟩;have H3:=hid h3;clear h3;go_wp2;go_ret;rw[HE2.out];exact⟨rfl,H3.out,HF2.out.trans hf3⟩
   ·obtain⟨hr1,hre⟩:=cc ht
    have hrs:r.size=1:=by rw[av hr];exact hr1
    obtain⟨b,hb⟩:∃b,b=r[0]'(by omega):=⟨_,rfl⟩;have hvb:val (sk.take s.data.toList 1).1=b.toNat:=by
     have h0:0<r.size:=by omega
     have h9:=aS r 0 h0;rw[List.take_of_length_le (by rw[am];omega),hr]at h9;rw[h9,hb];simp[val]
    have hwb:IntKind.u64.wrap (b.toNat:Int)=(b.toNat:Int):=by have:=b.toNat_lt;rw[IntKind.wrap_u64];omega
    have hb8:=b.toNat_lt;have HG:=hid hr;clear hr;have hx:IntKind.u64.wrap ((r[0]'(by omega)).toNat:Int)=(b.toNat:Int):=by rw[← hb];exact hwb
    have hnm:=bU b;clear hb hwb;by_cases h9:z=63
    ·have hk9:k=9:=by have:=HZ.out;omega
     subst h9;by_cases hb1:1<b.toNat
     ·have HE2:=hid (HQ1.out.trans (bY ht (by rw[hvb];omega)))
      clear ht hvb
      go_wp2_with fail
      refine(aJ w2 p s _ H2.out 4 frm hat).mono ?_;rintro e w3 ⟨rfl,h3,hf3⟩;have H3:=hid h3;clear h3;go_wp2;go_ret;rw[HE2.out];exact⟨rfl,H3.out,HF2.out.trans hf3⟩
     ·by_cases hb0:b.toNat=0
      ·have HE2:=hid (HQ1.out.trans (bY ht (by rw[hvb];omega)))
       clear ht hvb
       go_wp2_with fail
       refine(aJ w2 p s _ H2.out 4 frm hat).mono ?_;rintro e w3 ⟨rfl,h3,hf3⟩;have H3:=hid h3;clear h3;go_wp2;go_ret;rw[HE2.out];exact⟨rfl,H3.out,HF2.out.trans hf3⟩
      ·have hs:b.toNat<128:=by omega
       obtain⟨hj1,hj2⟩:=bW m (b.toNat % 128) k HM.out hk (by omega) (λh=>by omega);obtain⟨N,hN⟩:∃N,N=m+b.toNat % 128*128 ^ k:=⟨_,rfl⟩;rw[← hN]at hj1 hj2;have HJ:=hid (show bits .or .u64 (m:Int) ((b.toNat:Int) % 128*9223372036854775808)=(N:Int)from by rw[← hj1,hk9,show(2:Int) ^ (7*9)=9223372036854775808 from by decide,IntKind.wrap_u64];congr 1;omega);clear hj1;have HE2:=hid (show R=(if most<N then (0,⟨frm,40,frm⟩) else (N,(sk.take s.data.toList 1).2.2))from by
        rw[HQ1.out,bZ ht (by rw[hvb];omega) (by rw[hvb];exact hs),hvb,hN,Nat.mod_eq_of_lt hs])
       clear ht hvb hN;have hup:=bQ w2 p s _ H2.out N most frm hat;rw[← HE2.out]at hup;have HUP:=hid hup;clear hup
       go_wp2_with fail
       rw[HJ.out];refine HUP.out.mono ?_;rintro e w3 ⟨rfl,h3,hf3⟩;have H3:=hid h3;clear h3;go_wp2;go_ret;exact⟨rfl,H3.out,HF2.out.trans hf3⟩
    ·have h9b:(z == 63)=false:=by simpa using h9
     have hk9:k≠9:=by have:=HZ.out;omega
     by_cases h0:z=0
     ·have hk0:k=0:=by have:=HZ.out;omega
      by_cases hs:b.toNat<128
      ·obtain⟨hj1,hj2⟩:=bW m (b.toNat % 128) k HM.out hk (by omega) (λh=>by omega)
       obtain⟨N,hN⟩:∃N,N=m+b.toNat % 128*128 ^ k:=⟨_,rfl⟩;rw[← hN]at hj1 hj2;have HJ:=hid (show bits .or .u64 (m:Int) ((b.toNat:Int) % 128)=(N:Int)from by rw[← hj1,hk0,Nat.mul_zero,Int.pow_zero,Int.mul_one,IntKind.wrap_u64];congr 1;omega);clear hj1;subst h0;have HE2:=hid (show R=(if most<N then (0,⟨frm,40,frm⟩) else (N,(sk.take s.data.toList 1).2.2))from by
        rw[HQ1.out,bZ ht (by rw[hvb];omega) (by rw[hvb];exact hs),hvb,hN,Nat.mod_eq_of_lt hs])
       clear ht hvb hN;have hup:=bQ w2 p s _ H2.out N most frm hat;rw[← HE2.out]at hup;have HUP:=hid hup;clear hup
       go_wp2_with fail
       rw[HJ.out];refine HUP.out.mono ?_;rintro e w3 ⟨rfl,h3,hf3⟩;have H3:=hid h3;clear h3;go_wp2;go_ret;exact⟨rfl,H3.out,HF2.out.trans hf3⟩
      ·obtain⟨hj1,hj2⟩:=bW m (b.toNat % 128) k HM.out hk (by omega) (λh=>by omega)
       obtain⟨N,hN⟩:∃N,N=m+b.toNat % 128*128 ^ k:=⟨_,rfl⟩;rw[← hN]at hj1 hj2;have HJ:=hid (show bits .or .u64 (m:Int) ((b.toNat:Int) % 128)=(N:Int)from by rw[← hj1,hk0,Nat.mul_zero,Int.pow_zero,Int.mul_one,IntKind.wrap_u64];congr 1;omega);clear hj1;subst h0;have HE2:=hid (show ∃f,k+1+f=10∧R=bJ s.data.toList most frm f (k+1) N (sk.take s.data.toList 1).2.2 from⟨f,by omega,by
        rw[HQ1.out,ca ht (by rw[hvb];omega) (by rw[hvb];exact hs),hvb,hN,show b.toNat-128=b.toNat % 128 from by omega]⟩)
       have HM2:=hid (show N<128 ^ (k+1)from by
        rw[hN,Nat.pow_succ];have h1:=HM.out;have h2:b.toNat % 128*128 ^ k≤127*128 ^ k:=Nat.mul_le_mul_right _ (by omega);omega)
       clear ht hvb hN;go_wp2;refine⟨⟨k+1,N,_,7,by rw[HJ.out],rfl,by omega,hid (by have:=HZ.out;push_cast;omega),HM2,H2,HF2,HE2⟩,?_⟩;simp[intOf]
     ·have hk0:0<k:=by have:=HZ.out;omega
      have hzp:0<z:=by omega
      by_cases hb0:b.toNat=0
      ·have HE2:=hid (HQ1.out.trans (bY ht (by rw[hvb];omega)))
       clear ht hvb
       go_wp2_with fail
       refine(aJ w2 p s _ H2.out 4 frm hat).mono ?_;rintro e w3 ⟨rfl,h3,hf3⟩;have H3:=hid h3;clear h3;go_wp2;go_ret;rw[HE2.out];exact⟨rfl,H3.out,HF2.out.trans hf3⟩
      ·by_cases hs:b.toNat<128
       ·obtain⟨hj1,hj2⟩:=bW m (b.toNat % 128) k HM.out hk (by omega) (λh=>by omega)
        obtain⟨N,hN⟩:∃N,N=m+b.toNat % 128*128 ^ k:=⟨_,rfl⟩;rw[← hN]at hj1 hj2;have HJ:=hid (show bits .or .u64 (m:Int) (IntKind.u64.wrap ((b.toNat:Int) % 128*2 ^ z.toNat))=(N:Int)from by rw[← hj1,show z.toNat=7*k from by have:=HZ.out;omega];rfl);clear hj1;have HE2:=hid (show R=(if most<N then (0,⟨frm,40,frm⟩) else (N,(sk.take s.data.toList 1).2.2))from by
         rw[HQ1.out,bZ ht (by rw[hvb];omega) (by rw[hvb];exact hs),hvb,hN,Nat.mod_eq_of_lt hs])
        clear ht hvb hN;have hup:=bQ w2 p s _ H2.out N most frm hat;rw[← HE2.out]at hup;have HUP:=hid hup;clear hup
        go_wp2_with fail
        rw[HJ.out];refine HUP.out.mono ?_;rintro e w3 ⟨rfl,h3,hf3⟩;have H3:=hid h3;clear h3;go_wp2;go_ret;exact⟨rfl,H3.out,HF2.out.trans hf3⟩
       ·obtain⟨hj1,hj2⟩:=bW m (b.toNat % 128) k HM.out hk (by omega) (λh=>by omega)
        obtain⟨N,hN⟩:∃N,N=m+b.toNat % 128*128 ^ k:=⟨_,rfl⟩;rw[← hN]at hj1 hj2;have HJ:=hid (show bits .or .u64 (m:Int) (IntKind.u64.wrap ((b.toNat:Int) % 128*2 ^ z.toNat))=(N:Int)from by rw[← hj1,show z.toNat=7*k from by have:=HZ.out;omega];rfl);clear hj1;have HE2:=hid (show ∃f,k+1+f=10∧R=bJ s.data.toList most frm f (k+1) N (sk.take s.data.toList 1).2.2 from⟨f,by omega,by
         rw[HQ1.out,ca ht (by rw[hvb];omega) (by rw[hvb];exact hs),hvb,hN,show b.toNat-128=b.toNat % 128 from by omega]⟩)
        have HM2:=hid (show N<128 ^ (k+1)from by
         rw[hN,Nat.pow_succ];have h1:=HM.out;have h2:b.toNat % 128*128 ^ k≤127*128 ^ k:=Nat.mul_le_mul_right _ (by omega);omega)
        clear ht hvb hN;go_wp2;refine⟨⟨k+1,N,_,z+7,by rw[HJ.out],rfl,by omega,hid (by have:=HZ.out;push_cast;omega),HM2,H2,HF2,HE2⟩,?_⟩;simp[intOf];omega
 ·have HS:=hid (show R=(0,st)from by rw[hR];unfold RdSt.short;rw[if_pos he])
  rw[HS.out];clear hR HS;have H:=hid h;have HE:=hid he;clear h he
  go_enter Tryz.func215,Tryz.ntmps215
  go_wp2_with fail
  refine(aI _ p s st H.out false (by simpa using HE.out)).mono ?_;rintro e w1 ⟨rfl,rfl⟩;go_wp2;go_ret;exact⟨rfl,H.out,Fr.refl _ _⟩
end
end Go.Proofs.YtaeakdichkhjaaaGreatDoor
