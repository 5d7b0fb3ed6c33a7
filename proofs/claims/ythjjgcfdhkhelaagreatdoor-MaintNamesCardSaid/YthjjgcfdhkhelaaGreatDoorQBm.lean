/- maint.Compact. -/
import Derived.Test.YthjjgcfdhkhelaaGreatDoorQBj
import Derived.Test.YthjjgcfdhkhelaaGreatDoorQBk
import Derived.Test.YthjjgcfdhkhelaaGreatDoorQBi
set_option maxHeartbeats 4000000
set_option maxRecDepth 100000
open Go.Lib(hid)
open Go.Proofs.Tryz
namespace Go.Proofs.YthjjgcfdhkhelaaGreatDoor
section
open Go.RowKit
theorem xG.lib {w0 w:World}{p b:Nat}{st:cZ}(h:xG w0 w p b st)(hl:vN w0):vN w∧¬vO p∧¬vO b:=
 ⟨hl.pure h.below,λe=>by have:=hl.lt p e;have:=h.fp;omega,λe=>by have:=hl.lt b e;have:=h.fb;omega⟩
theorem xy.mtd {w0 w:World}{F:Nat→Prop}{g p b:Nat}{st:cZ}{l:kR}(h:xy w0 w F g p b st l):xG w0 w p b st:=⟨h.env.dk,h.fp,h.fb,h.below⟩
theorem xH {c:Cfg}(h:kN c=true):0≤c.v∧c.v≤255:=by
 unfold kN at h;simp only[Bool.and_eq_true,decide_eq_true_eq]at h;omega
theorem xI {w0 w:World}(hl:vN w0){p b:Nat}{st s1:cZ}{c:Cfg}{l:kR}(h:xG w0 w p b st)(hn:named st=true)(hc:kN c=true)(hk:lu l)(ho:mD st c=(s1,0,some l)) :
  Calls prog 21 #[.pointer (some ⟨p,0,none⟩),.agg #[.int .i64 c.ss,.int .i64 c.ev,.int .u8 c.v]] w λe w'=>∃g F,e = .returned (.tuple #[.pointer (some ⟨g,0,none⟩),.int .i64 0])∧xy w0 w' F g p b s1 l∧dY p b w w':=by
 refine(xe w (h.lib hl).1 p b st h.dk (h.lib hl).2 (qa hn) c (xH hc).1 (xH hc).2 hc).mono ?_;rw[ho];intro e w' hi;obtain⟨g,F,he,hf⟩:=xy.init hl.pow h.below h.dk h.fp h.fb hk hi;exact⟨g,F,he,hf,hi.2.1⟩
structure xJ (LF:List UInt8→List UInt8×Int) (st:cZ) (l:kR):Prop where
 ok:lu l
 on:LgOn st l
 lit:st.dark=false
 nmd:named st=true
 ends:vq l
 lf:∀x∈l.all,vf LF x
 all:l.all.length≤1000000
theorem xJ.open_ {LF:List UInt8→List UInt8×Int}{st:cZ}{l:kR}(h:xJ LF st l):mD st l.cfg=(st,0,some l):=mM h.lit h.ok h.on
theorem xK (LF:List UInt8→List UInt8×Int){w0 w:World}(hl:vN w0)(hk:uL w0){p b:Nat}{st:cZ}{l:kR}(h:xG w0 w p b st)(hg:xJ LF st l) :
  Calls prog 7 #[.pointer (some ⟨p,0,none⟩),.agg #[.int .i64 l.cfg.ss,.int .i64 l.cfg.ev,.int .u8 l.cfg.v]] w λe w'=>e = .returned (.tuple #[.int .i64 ((qV LF l).1.length:Int),.int .i64 (qV LF l).2])∧xG w0 w' p b st∧dY p b w w':=by
 have HL:=hid hl;have HK:=hid hk;have H:=hid h;have HG:=hid hg;clear hl hk h hg
 go_enter func7,ntmps7
 obtain⟨W1,hW1⟩:∃W1,W1=w.alloc (.cells #[.int .i64 l.cfg.ss,.int .i64 l.cfg.ev,.int .u8 l.cfg.v] 24):=⟨_,rfl⟩;have hb1:Below w.heap.size w W1:=by rw[hW1];exact(Below.refl _ _).alloc (Nat.le_refl _) _
 have HBW:=hid hb1
 go_wp2_with fail
 rw[← hW1];clear hW1;refine(xI HL.out (H.out.pure hb1) HG.out.nmd HG.out.ok.cfg HG.out.ok HG.out.open_).mono ?_;rintro e w1 ⟨g,F,rfl,hf,hr⟩;have HR:=hid hr;have HF:=hid hf;clear hf H hb1 hr
 go_wp2_with fail
 refine(vw LF w1 F g p b st l HF.out.env HG.out.on HG.out.lit HG.out.ends (HK.out.pure HF.out.below) HG.out.lf HG.out.all).mono ?_;rintro e w2 ⟨⟨v,rfl,ho⟩,hb⟩;obtain⟨a,c,rfl⟩:=ho.shape;have HM:=hid (And.intro (HF.out.mtd.pure hb) (((Fr.pure (S:=λk=>k=p∨k=b) HBW.out).trans HR.out).trans (Fr.pure hb)));clear ho hb;go_wp2;exact bodyPost_ret (v:=.tuple #[.int .i64 ((qV LF l).1.length:Int),.int .i64 (qV LF l).2]) (by simp[results,results7,go_sem]) rfl ⟨rfl,HM.out⟩
theorem xL {P:World→Prop}{code a b c:Int}(hc:code≠0)(w:World)(dv:Value)(h:∀W,Below w.heap.size w W→Calls prog 21 #[dv,.agg #[.int .i64 a,.int .i64 b,.int .u8 c]] W λe w'=>e = .returned (.tuple #[.pointer none,.int .i64 code])∧P w') :
  Calls prog 7 #[dv,.agg #[.int .i64 a,.int .i64 b,.int .u8 c]] w λe w'=>e = .returned (.tuple #[.int .i64 0,.int .i64 code])∧P w':=by
 have H:=hid h;have h1:(code != 0)=true:=by simpa using hc
 have h2:(code == 0)=false:=by simpa using hc
 clear h
 go_enter func7,ntmps7
 go_wp2_with fail
 refine(H.out _ ((Below.refl _ _).alloc (Nat.le_refl _) _)).mono ?_;rintro e w1 ⟨rfl,hp⟩;have HP:=hid hp;clear hp;go_wp2;exact bodyPost_ret (v:=.tuple #[.int .i64 0,.int .i64 code]) (by simp[results,results7,go_sem]) rfl ⟨rfl,HP.out⟩
theorem xM {P:World→Prop}{code a b c:Int}(hc:code≠0)(w:World)(dv:Value)(h:∀W,Below w.heap.size w W→Calls prog 21 #[dv,.agg #[.int .i64 a,.int .i64 b,.int .u8 c]] W λe w'=>e = .returned (.tuple #[.pointer none,.int .i64 code])∧P w') :
  Calls prog 6 #[dv,.agg #[.int .i64 a,.int .i64 b,.int .u8 c]] w λe w'=>e = .returned (.tuple #[.pointer none,.int .i64 code])∧P w':=by
 have H:=hid h;have h1:(code != 0)=true:=by simpa using hc
 have h2:(code == 0)=false:=by simpa using hc
 clear h
 go_enter func6,ntmps6
 go_wp2_with fail
 refine(H.out _ ((Below.refl _ _).alloc (Nat.le_refl _) _)).mono ?_;rintro e w1 ⟨rfl,hp⟩;have HP:=hid hp;clear hp;go_wp2;exact bodyPost_ret (v:=.tuple #[.pointer none,.int .i64 code]) (by simp[results,results6,go_sem]) rfl ⟨rfl,HP.out⟩
theorem xN {P:World→Prop}{code a b c:Int}(hc:code≠0)(w:World)(dv:Value)(h:∀W,Below w.heap.size w W→Calls prog 21 #[dv,.agg #[.int .i64 a,.int .i64 b,.int .u8 c]] W λe w'=>e = .returned (.tuple #[.pointer none,.int .i64 code])∧P w') :
  Calls prog 5 #[dv,.agg #[.int .i64 a,.int .i64 b,.int .u8 c]] w λe w'=>e = .returned (.tuple #[.pointer none,.int .i64 code])∧P w':=by
 have H:=hid h;have h1:(code != 0)=true:=by simpa using hc
 have h2:(code == 0)=false:=by simpa using hc
 clear h
 go_enter func5,ntmps5
 go_wp2_with fail
 refine(H.out _ ((Below.refl _ _).alloc (Nat.le_refl _) _)).mono ?_;rintro e w1 ⟨rfl,hp⟩;have HP:=hid hp;clear hp;go_wp2;exact bodyPost_ret (v:=.tuple #[.pointer none,.int .i64 code]) (by simp[results,results5,go_sem]) rfl ⟨rfl,HP.out⟩
theorem xO (LF:List UInt8→List UInt8×Int){w0 w:World}(hl:vN w0)(hk:uL w0){p b:Nat}{st:cZ}{l:kR}(h:xG w0 w p b st)(hg:xJ LF st l){A:List qT}{code:Int}(ha:qV LF l=(A,code))(hc:code≠0) :
  Calls prog 6 #[.pointer (some ⟨p,0,none⟩),.agg #[.int .i64 l.cfg.ss,.int .i64 l.cfg.ev,.int .u8 l.cfg.v]] w λe w'=>e = .returned (.tuple #[.pointer none,.int .i64 code])∧xG w0 w' p b st:=by
 have HL:=hid hl;have HK:=hid hk;have H:=hid h;have HG:=hid hg;have HA:=hid ha;have h1:(code != 0)=true:=by simpa using hc
 have h2:(code == 0)=false:=by simpa using hc
 clear hl hk h hg ha
 go_enter func6,ntmps6
 obtain⟨W1,hW1⟩:∃W1,W1=w.alloc (.cells #[.int .i64 l.cfg.ss,.int .i64 l.cfg.ev,.int .u8 l.cfg.v] 24):=⟨_,rfl⟩;have hb1:Below w.heap.size w W1:=by rw[hW1];exact(Below.refl _ _).alloc (Nat.le_refl _) _
 go_wp2_with fail
 rw[← hW1];clear hW1;refine(xI HL.out (H.out.pure hb1) HG.out.nmd HG.out.ok.cfg HG.out.ok HG.out.open_).mono ?_;rintro e w1 ⟨g,F,rfl,hf,_⟩;have HF:=hid hf;clear hf H hb1
 go_wp2_with fail
 refine(vw LF w1 F g p b st l HF.out.env HG.out.on HG.out.lit HG.out.ends (HK.out.pure HF.out.below) HG.out.lf HG.out.all).mono ?_;rw[HA.out];rintro e w2 ⟨⟨v,rfl,ho⟩,hb⟩;obtain⟨a,c,rfl⟩:=ho.shape;have HM:=hid (HF.out.mtd.pure hb);clear ho hb;go_wp2;exact bodyPost_ret (v:=.tuple #[.pointer none,.int .i64 code]) (by simp[results,results6,go_sem]) rfl ⟨rfl,HM.out⟩
theorem xP (LF:List UInt8→List UInt8×Int){w0 w:World}(hl:vN w0)(hk:uL w0){p b:Nat}{st:cZ}{l:kR}(h:xG w0 w p b st)(hg:xJ LF st l)(ha:qV LF l=([],0)) :
  Calls prog 6 #[.pointer (some ⟨p,0,none⟩),.agg #[.int .i64 l.cfg.ss,.int .i64 l.cfg.ev,.int .u8 l.cfg.v]] w λe w'=>∃g F,e = .returned (.tuple #[.pointer (some ⟨g,0,none⟩),.int .i64 0])∧xy w0 w' F g p b st l∧dY p b w w':=by
 have HL:=hid hl;have HK:=hid hk;have H:=hid h;have HG:=hid hg;have HA:=hid ha;clear hl hk h hg ha
 go_enter func6,ntmps6
 obtain⟨W1,hW1⟩:∃W1,W1=w.alloc (.cells #[.int .i64 l.cfg.ss,.int .i64 l.cfg.ev,.int .u8 l.cfg.v] 24):=⟨_,rfl⟩;have hb1:Below w.heap.size w W1:=by rw[hW1];exact(Below.refl _ _).alloc (Nat.le_refl _) _
 have HBW:=hid hb1
 go_wp2_with fail
 rw[← hW1];clear hW1;refine(xI HL.out (H.out.pure hb1) HG.out.nmd HG.out.ok.cfg HG.out.ok HG.out.open_).mono ?_;rintro e w1 ⟨g,F,rfl,hf,hr⟩;have HR:=hid hr;have HF:=hid hf;clear hf H hb1 hr
 go_wp2_with fail
 refine(vw LF w1 F g p b st l HF.out.env HG.out.on HG.out.lit HG.out.ends (HK.out.pure HF.out.below) HG.out.lf HG.out.all).mono ?_;rw[HA.out];rintro e w2 ⟨⟨v,rfl,ho⟩,hb⟩;obtain⟨a,c,rfl⟩:=ho.shape;have HF2:=hid (And.intro (HF.out.pure hb) (((Fr.pure (S:=λk=>k=p∨k=b) HBW.out).trans HR.out).trans (Fr.pure hb)));clear ho hb;go_wp2;exact bodyPost_ret (v:=.tuple #[.pointer (some ⟨g,0,none⟩),.int .i64 0]) (by simp[results,results6,go_sem]) rfl ⟨g,F,rfl,HF2.out⟩
theorem xQ {g:Int}{l:bI}(h:bL g l=true){n:List UInt8}(hn:n∈l.map gu):n.length≤100:=by
 obtain⟨x,hx,rfl⟩:=List.mem_map.1 hn;obtain⟨i,hi,rfl⟩:=List.getElem_of_mem hx;obtain⟨a,f,e,h1,h2⟩:=lP h i hi;unfold gu;rw[e,kA a f h1 h2];omega
theorem zh (w:World)(p b:Nat)(st:cZ)(h:db w p b st)(s:ByteArray)(hs:s.size≤100) :
  Calls prog 16 #[.pointer (some ⟨p,0,none⟩),.string s] w λe w'=>e = .returned (.bool ((eI st s.data.toList).2 == 0))∧Below w.heap.size w w':=by
 have H:=hid h;clear h
 go_enter func16,ntmps16
 go_wp2_with fail
 refine(eK w p b st H.out s (by unfold maxLen;omega)).mono ?_;rintro e w1 ⟨⟨x,hx,rfl⟩,hb⟩;have HB:=hid hb;clear hx hb;go_wp2;go_ret;exact⟨rfl,HB.out⟩
theorem zj {p q:List UInt8}{c:Int}(h:ri p=(q,c))(k:∀(W:World) (s:ByteArray),uL W→s.data.toList=p→Calls prog 144 #[.string s] W λe w'=>(∃r:ByteArray,r.data.toList=q∧e = .returned (.tuple #[.string r,.int .i64 c]))∧Below W.heap.size W w'):vf ri p:=by
 intro W s hk hs;rw[h];exact k W s hk hs
theorem zk (n:Nat)(h1:1≤n)(h2:n≤100):vf ri (yM 3 n):=
 zj (q:=yM 3 n) (c:=0) rfl λW s hk hs=>zg W hk s 3 n n (.inr rfl) h1 h2 h1 h2 hs (zc n h1 h2)
theorem zm:∀n:Fin 11,ri (yM 1 n.val)=(yM 3 (10*n.val),0):=by decide
theorem zn (n:Nat)(h1:1≤n)(h2:n≤10):vf ri (yM 1 n):=
 zj (q:=yM 3 (10*n)) (c:=0) (zm ⟨n,by omega⟩) λW s hk hs=>zg W hk s 1 n (10*n) (.inl rfl) h1 (by omega) (by omega) (by omega) hs (zd n h1 (by omega))
theorem zo:vf ri nbB:=zj (q:=[]) (c:=43) rfl λW s _ hs=>(za W s hs).mono λ_ _ h=>⟨⟨⟨#[]⟩,rfl,h.1⟩,h.2⟩
def zp (l:kR)(k:Nat):Bool:=match l.segs[k]? with
 | some s=>decide (0≤s.2) && decide (l.first≤s.2) && decide (s.2≤vl l k) && decide (vl l k≤(l.next:Int))
 | none=>true
theorem zq {l:kR}(h:(List.range l.segs.length).all (zp l)=true):vq l:=by
 intro k hk;rw[List.all_eq_true]at h;have h:=h k (List.mem_range.2 hk);unfold zp at h;rw[List.getElem?_eq_getElem hk]at h;simp only[Bool.and_eq_true,decide_eq_true_eq]at h;obtain⟨⟨⟨h1,h2⟩,h3⟩,h4⟩:=h;exact⟨l.segs[k].2.toNat,(vl l k).toNat,by omega,by omega,by omega,by omega,by omega⟩
theorem zr {P:List UInt8→Prop}(h3:∀n,1≤n→n≤100→P (yM 3 n))(h1:∀n,1≤n→n≤10→P (yM 1 n)):∀x∈rk.all,P x:=by
 rw[show rk.all=[yM 3 10,yM 3 20,yM 1 3,yM 1 4,yM 3 50,yM 3 60,yM 1 7,yM 1 8]from rfl];simp only[List.forall_mem_cons,List.not_mem_nil,false_implies,implies_true,and_true];exact⟨h3 _ (by omega) (by omega),h3 _ (by omega) (by omega),h1 _ (by omega) (by omega),h1 _ (by omega) (by omega),h3 _ (by omega) (by omega),h3 _ (by omega) (by omega),h1 _ (by omega) (by omega),h1 _ (by omega) (by omega)⟩
theorem zt:xJ ri mxS.1 rk:=⟨ru rG.2.2.1,rA rG.2.1,rG.2.2.2.2.1,rG.2.2.2.1,zq (by decide),zr zk zn,by decide⟩
theorem zu:xJ ri mxX.1 rU:=⟨ru rV.2.2.2.1,rA rV.2.2.1,rV.2.2.2.2.2,rV.2.2.2.2.1,zq (by decide),zr zk zn,by decide⟩
theorem zv:∀x∈mxBL.all,vf ri x:=by
 intro x hx;rw[show mxBL.all=[nbB]from rfl,List.mem_singleton]at hx;subst hx;exact zo
theorem zw:∀x∈(mU q9 0).all,vf ri x:=by
 intro x hx;rw[show(mU q9 0).all=[]from rfl]at hx;cases hx
theorem zx:xJ ri mxB.1.1 mxBL:=⟨ru rE.2.2.2.2.1,rA rE.2.2.1,rE.2.2.2.2.2,rE.2.2.2.1,zq (by decide),zv,by decide⟩
theorem good_1:xJ ri mxD1 (mU q9 0):=⟨mW (by decide) (by decide),rA rC.1,rfl,rC.2.1,zq (by decide),zw,by decide⟩
theorem zy (w:World)(hk:uL w)(v:Nat)(hv:v=1∨v=3)(t:Nat)(h1:1≤t)(h2:t≤10) :
  Calls prog 54 #[.int .u8 (v:Int),.int .i64 (t:Int)] w λe w'=>(∃r:ByteArray,r.data.toList=rh v t∧e = .returned (.string r))∧Below w.heap.size w w':=by
 have HK:=hid hk;have HV:=hid hv;have hwr:IntKind.i64.wrap ((t:Int)*10)=(t:Int)*10:=IntWalk.i64_in _ (by omega);clear hk hv
 go_enter func54,ntmps54
 go_wp2_with fail
 obtain⟨n,hn⟩:∃n,n=w.heap.size:=⟨_,rfl⟩;obtain⟨W1,hW1⟩:∃W1,W1=(w.alloc (.cells #[.int .i64 ((t:Int)*10)] 2)).alloc (.cells #[.int .u8 3,.int .u8 20,.slice (some ⟨n,0,none⟩) 1 1,.slice none 0 0] 189):=⟨_,rfl⟩;have hb1:Below w.heap.size w W1:=by rw[hW1];exact((Below.refl _ _).alloc (Nat.le_refl _) _).alloc (by simp) _
 have k1:W1.heap[n+1]?=some (.cells #[.int .u8 3,.int .u8 20,.slice (some ⟨n,0,none⟩) 1 1,.slice none 0 0] 189 (0,0)):=by rw[hW1,hn];exact yS _ _ (by simp)
 have k0:W1.heap[n]?=some (.cells #[.int .i64 ((t:Int)*10)] 2 (0,0)):=by rw[hW1,hn];exact(Below.heap_alloc _ _ _ (by simp)).trans (heap_alloc_new _ _)
 have hc:W1.cell? ⟨n,0,none⟩=some (.int .i64 ((t:Int)*10)):=(cell_of_row _ _ _ _ _ _ k0).trans rfl;have hr:yy W1 (n+1) 3 n 1 ((10*t:Nat):Int):=by
  obtain⟨x0,x1,x2,x3,xf⟩:=uY k1;exact⟨x0,x1,x2,x3,by rw[hc];congr 2;omega,λj=>frozen_of_row _ _ _ _ _ k1⟩
 rw[← hn,← hW1];have hkW:=HK.out.pure hb1;have HB:=hid hb1;clear hW1 hb1 k0 k1 hn
 rcases HV.out with rfl|rfl
 ·refine(yN W1 hkW (n+1) 1 (10*t) t 1 (by omega) (by omega) h1 (by omega) (.inl rfl) n 1 hr (λW hW=>yv W (hkW.pure hW) t h1 (by omega) n 1 (by rw[vd hc hW];congr 2;omega))).mono ?_
  rintro e w2 ⟨⟨r,hr2,rfl⟩,hb2⟩;have HR2:=hid (And.intro hr2 (HB.out.trans (hb2.mono HB.out.size)));clear hr hr2 hb2 hc hkW;go_wp2;go_ret;exact⟨⟨r,HR2.out.1,rfl⟩,HR2.out.2⟩
 ·refine(yN W1 hkW (n+1) 1 (10*t) (10*t) 3 (by omega) (by omega) (by omega) (by omega) (.inr (.inr rfl)) n 1 hr (λW hW=>ys W (hkW.pure hW) 3 (.inr (.inr rfl)) ((10*t:Nat):Int) (by omega) (by omega) n 1 (by rw[vd hc hW];congr 2;omega))).mono ?_
  rintro e w2 ⟨⟨r,hr2,rfl⟩,hb2⟩;have HR2:=hid (And.intro (show r.data.toList=rh 3 t from by rw[hr2];unfold yM rh;rw[if_pos rfl,Nat.mul_comm]) (HB.out.trans (hb2.mono HB.out.size)));clear hr hr2 hb2 hc hkW;go_wp2;go_ret;exact⟨⟨r,HR2.out.1,rfl⟩,HR2.out.2⟩
theorem xG.base {w0 w w':World}{p b:Nat}{st:cZ}(h:xG w w' p b st)(hb:Below w0.heap.size w0 w):xG w0 w' p b st:=by
 have h1:=hb.size;have h2:=h.fp;have h3:=h.fb;exact⟨h.dk,by omega,by omega,hb.trans (h.below.mono h1)⟩
theorem zz:kY rj 0 q9=(mxD1,0,some (mU q9 0)):=qb (cap:=5000) (q:=0) (c:=q9) (by decide) (by decide) (by decide +kernel)
theorem zA {k:Nat}(h:k<9):(mxA k).2=0:=by
 have:=List.all_eq_true.1 rl.1 k (List.mem_range.2 h);simp only[Bool.and_eq_true,decide_eq_true_eq]at this;exact this.1
theorem zB:(mxA 8).1.2=rk:=pY rl.2
theorem zD:(mxA 0).1.1=mxD1∧(mxA 0).1.2=mU q9 0:=⟨rfl,rfl⟩
theorem zE (w:World)(hl:vN w)(hk:uL w) :
  Calls prog 12 #[] w λe w'=>∃p b,e = .returned (.tuple #[.pointer (some ⟨p,0,none⟩),.agg #[.int .i64 64,.int .i64 1,.int .u8 3]])∧xG w w' p b mxS.1:=by
 obtain⟨B,hB⟩:∃B,B=w.heap.size:=⟨_,rfl⟩;obtain⟨W1,hW1⟩:∃W1,W1=(w.alloc (.cells #[.int .i64 0,.int .i64 0,.int .u8 0] 24)).alloc (.cells #[.int .i64 64,.int .i64 1,.int .u8 3] 24):=⟨_,rfl⟩;have hb1:Below w.heap.size w W1:=by rw[hW1];exact((Below.refl _ _).alloc (Nat.le_refl _) _).alloc (by simp) _
 have k0:W1.heap[B]?=some (.cells #[.int .i64 0,.int .i64 0,.int .u8 0] 24 (0,0)):=by rw[hW1,hB];exact(Below.heap_alloc _ _ _ (by simp)).trans (heap_alloc_new _ _)
 have k1:W1.heap[B+1]?=some (.cells #[.int .i64 64,.int .i64 1,.int .u8 3] 24 (0,0)):=by rw[hW1,hB];exact fm _ _ (by simp)
 have K0:=hid k0;have K1:=hid k1;have HB1:=hid hb1;have HL:=hid (hl.pure hb1);have HK:=hid (hk.pure hb1);have HBB:=hid hB;obtain⟨M,hM⟩:∃M,M=mxA:=⟨_,rfl⟩;have HM:=hid hM;clear hl hk hb1 k0 k1 hM
 go_enter func12,ntmps12
 go_wp2_with fail
 rw[← hW1]
 try rw[← hB]
 clear hW1 hB;refine(jR W1 5000 (by decide)).mono ?_;rintro e w2 ⟨hb2,h1⟩;rw[show eX 5000 []=(some rj,0)from rfl]at h1;obtain⟨p,b,hpg,hbg,rfl,hd⟩:=h1;have k1:=(hb2.block _ (lt_of_block K1.out)).trans K1.out;have c0:w2.cell? ⟨B+1,0,none⟩=some (.int .i64 64):=(cell_of_row _ _ _ _ _ _ k1).trans rfl;have c1:w2.cell? ⟨B+1,1,none⟩=some (.int .i64 1):=(cell_of_row _ _ _ _ _ _ k1).trans rfl;have c2:w2.cell? ⟨B+1,2,none⟩=some (.int .u8 3):=(cell_of_row _ _ _ _ _ _ k1).trans rfl;have HD:=hid (And.intro hd (And.intro hpg (And.intro hbg hb2)));clear hd hpg hbg hb2 k1
 go_wp2_with fail
 refine(show Calls prog 9 #[.pointer (some ⟨p,0,none⟩),.int .i64 0,.agg #[.int .i64 64,.int .i64 1,.int .u8 3]] w2 λe w'=>tC p b (kY rj 0 q9) w2 e w' from wV w2 (HL.out.pure HD.out.2.2.2).pow p b rj HD.out.1 0 (by decide) q9 (by decide) (by decide) (by decide) rfl rfl).mono ?_;rw[zz];intro e w3 hi;obtain⟨g,F,rfl,hf⟩:=xy.init HL.out.pow HD.out.2.2.2 HD.out.1 HD.out.2.1 HD.out.2.2.1 (mW (by decide) (by decide)) hi;have HF:=hid hf;clear hi hf c0 c1 c2
 go_wp2_with fail
 go_loopw [7] (λi wr=>∃(k:Nat) (F:Nat→Prop),i = .int .i64 k∧k≤8∧Hid (xy W1 wr F g p b (M k).1.1 (M k).1.2)) (λi _=>8-(intOf i).toNat)
 case atStart=>exact⟨0,F,rfl,by omega,hid (by rw[HM.out,zD.1,zD.2];exact HF.out)⟩
 case round=>
  obtain⟨k,F2,rfl,hk8,HR⟩:=hrel;by_cases hlt:k<8
  ·have hlt2:decide ((k:Int)<8)=true:=by simp;omega
   have hx0:mxA (k+1)=ls (M k).1.1 (M k).1.2 (rh (mxV k) (k+1)):=by rw[HM.out];rfl
   have hx1:(mxA (k+1)).2=0:=zA (by omega);have hmv:∃v:Nat,mxV k=v∧(v=1∨v=3)∧((k:Int) / 2 % 2 == 1)=decide (v=1):=by
    unfold mxV;by_cases hp:k / 2 % 2=1
    ·exact⟨1,if_pos hp,.inl rfl,by simp;omega⟩
    ·exact⟨3,if_neg hp,.inr rfl,by simp;omega⟩
   obtain⟨v,hv,hv2,hpar⟩:=hmv;rw[hv]at hx0;have HX:=hid (And.intro hx0 hx1);clear hx0 hx1 hv
   rcases hv2 with rfl|rfl
   case' inl=>
    simp only[decide_true]at hpar
    go_wp2_with fail
    refine(show Calls prog 54 #[.int .u8 1,.int .i64 ((k:Int)+1)] wr λe w'=>(∃r:ByteArray,r.data.toList=rh 1 (k+1)∧e = .returned (.string r))∧Below wr.heap.size wr w' from zy wr (HK.out.pure HR.out.below) 1 (.inl rfl) (k+1) (by omega) (by omega)).mono ?_
   case' inr=>
    simp only[Nat.reduceEqDiff,decide_false]at hpar
    go_wp2_with fail
    refine(show Calls prog 54 #[.int .u8 3,.int .i64 ((k:Int)+1)] wr λe w'=>(∃r:ByteArray,r.data.toList=rh 3 (k+1)∧e = .returned (.string r))∧Below wr.heap.size wr w' from zy wr (HK.out.pure HR.out.below) 3 (.inr rfl) (k+1) (by omega) (by omega)).mono ?_
   all_goals
    rintro e w4 ⟨⟨r,hr,rfl⟩,hb4⟩;have hrs:r.size=4:=by rw[← ak,hr];rfl
    have HRR:=hid hr;have HR4:=hid (HR.out.pure hb4);clear hr hb4
    go_wp2_with fail
    refine(xx w4 F2 g p b _ _ HR4.out.env r (by omega)).mono ?_;rw[HRR.out,← HX.out.1];rintro e w5 ⟨rfl,hle⟩;rw[HX.out.2];obtain⟨F5,hf5⟩:=HR4.out.left hle;have HF5:=hid hf5;clear hle hf5;go_wp2
    go_roundw
    case rel=>exact⟨k+1,F5,by go_num,by omega,hid (by rw[HM.out];exact HF5.out)⟩
    case measure=>simp[intOf];omega
  ·obtain rfl:k=8:=by omega
   have hlt2:decide (((8:Nat):Int)<8)=false:=by decide
   have hfr:xy W1 wr F2 g p b (mxA 8).1.1 rk:=by
    have h:=HR.out;rw[HM.out]at h;rw[← zB];exact h
   have HR8:=hid hfr;clear hfr HR
   go_wp2_with fail
   refine(ti wr HR8.out.env.pow F2 g p b _ rk HR8.out.env.lg HR8.out.env.dk (by decide) (by decide) (by decide +kernel)).mono ?_;rw[show ln (mxA 8).1.1 rk=mxS from by unfold mxS;rw[zB]];rintro e w4 ⟨rfl,hd4,hf4⟩;rw[rG.1];have ho:=(show xG W1 wr p b (mxA 8).1.1 from⟨HR8.out.env.dk,HR8.out.fp,HR8.out.fb,HR8.out.below⟩).op hd4 hf4;have k0:=(ho.below.block _ (lt_of_block K0.out)).trans K0.out;have k1:=(ho.below.block _ (lt_of_block K1.out)).trans K1.out;have HO:=hid ho;have c0:w4.cell? ⟨B+1,0,none⟩=some (.int .i64 64):=(cell_of_row _ _ _ _ _ _ k1).trans rfl;have c1:w4.cell? ⟨B+1,1,none⟩=some (.int .i64 1):=(cell_of_row _ _ _ _ _ _ k1).trans rfl;have c2:w4.cell? ⟨B+1,2,none⟩=some (.int .u8 3):=(cell_of_row _ _ _ _ _ _ k1).trans rfl;have z0:w4.cell? ⟨B,0,none⟩=some (.int .i64 0):=(cell_of_row _ _ _ _ _ _ k0).trans rfl;have z1:w4.cell? ⟨B,1,none⟩=some (.int .i64 0):=(cell_of_row _ _ _ _ _ _ k0).trans rfl;have z2:w4.cell? ⟨B,2,none⟩=some (.int .u8 0):=(cell_of_row _ _ _ _ _ _ k0).trans rfl;have zf0:w4.frozen? ⟨B,0,none⟩=false:=frozen_of_row _ _ _ _ _ k0;have zf1:w4.frozen? ⟨B,1,none⟩=false:=frozen_of_row _ _ _ _ _ k0;have zf2:w4.frozen? ⟨B,2,none⟩=false:=frozen_of_row _ _ _ _ _ k0;have KR:=hid k0;clear hd4 hf4 ho k0 k1
   go_wp2_with fail
   go_region
   all_goals
    go_wp2_with fail
    obtain⟨Wf,hWf⟩:∃Wf,Wf=(((w4.setCell ⟨B,0,none⟩ (.int .i64 64)).setCell ⟨B,1,none⟩ (.int .i64 1)).setCell ⟨B,2,none⟩ (.int .u8 3)).drew:=⟨_,rfl⟩;have hff:Fr (λj=>j=B) w4 Wf:=by rw[hWf];exact((((Fr.refl (λj=>j=B) w4).setCell ⟨B,0,none⟩ (λ_=>rfl) _).setCell ⟨B,1,none⟩ (λ_=>rfl) _).setCell ⟨B,2,none⟩ (λ_=>rfl) _).drew
    have rff:Wf.heap[B]?=some (.cells #[.int .i64 64,.int .i64 1,.int .u8 3] 24 (0,0)):=by rw[hWf];exact heap_setCell_same _ _ _ _ _ _ (heap_setCell_same _ _ _ _ _ _ (heap_setCell_same _ _ _ _ _ _ KR.out))
    have o0:Wf.cell? ⟨B,0,none⟩=some (.int .i64 64):=(cell_of_row _ _ _ _ _ _ rff).trans rfl;have o1:Wf.cell? ⟨B,1,none⟩=some (.int .i64 1):=(cell_of_row _ _ _ _ _ _ rff).trans rfl;have o2:Wf.cell? ⟨B,2,none⟩=some (.int .u8 3):=(cell_of_row _ _ _ _ _ _ rff).trans rfl;rw[← hWf];clear hWf c0 c1 c2 z0 z1 z2 zf0 zf1 zf2;have hpp:B≠p∧B≠b:=by have:=HO.out.fp;have:=HO.out.fb;have:=lt_of_block K1.out;omega
    have hbe:=HB1.out;have hbb:=HBB.out;refine bodyPost_ret (v:=.tuple #[.pointer (some ⟨p,0,none⟩),.agg #[.int .i64 64,.int .i64 1,.int .u8 3]]) (by simp[results,results12,go_sem,o0,o1,o2]) rfl ⟨p,b,rfl,?_⟩;have h1:=HO.out.fp;have h2:=HO.out.fb;have h3:=hbe.size;exact⟨HO.out.dk.kept hff (λe=>hpp.1 e.symm) (λe=>hpp.2 e.symm),by omega,by omega,(hbe.trans (HO.out.below.mono h3)).trans (hff.below (by have:=HO.out.below.size;omega) (λj hj e=>by have e2:j=B:=e;omega))⟩
theorem bJ.drop {w:World}{b o n c:Nat}{l:bI}(h:bJ w (.slice (some ⟨b,o,none⟩) n c) l)(k c':Nat):bJ w (.slice (some ⟨b,o+k*2,none⟩) (l.length-k) c') (l.drop k):=by
 refine⟨_,c',by rw[List.length_drop],?_⟩;by_cases hk:k<l.length
 ·refine .inr ⟨b,o+k*2,rfl,λi hi=>?_⟩
  rw[List.length_drop]at hi;obtain⟨_,_,e,h1,h2,_⟩:=h.at (k+i) (by omega);cases e;rw[List.getElem_drop];exact⟨by rw[← h1];congr 2;omega,by rw[← h2];congr 2;omega⟩
 ·exact .inl (List.drop_of_length_le (by omega))
theorem rZ.take {w:World}{a:Option Addr}{n c:Nat}{l:List (List UInt8)}(h:rZ w (.slice a n c) l)(k c':Nat)(hk:k≤l.length):rZ w (.slice a k c') (l.take k):=by
 obtain⟨a',c2,e,h⟩:=h;cases e;refine⟨a,c',by rw[List.length_take,Nat.min_eq_left hk],λi hi=>?_⟩;rw[List.length_take]at hi;obtain⟨g,x,h1,h2,h3⟩:=h i (by omega);exact⟨g,x,h1,by rw[h2,List.getElem_take],h3⟩
theorem Dk {a:Option Addr}{n c n' c' y:Nat}(e:(Value.slice a n c).ownBlock=some y):(Value.slice a n' c').ownBlock=some y:=by
 cases a with
 | none=>simp[Value.ownBlock]at e
 | some a=>exact e
theorem Dl {w0 w:World}(hl:vN w0)(hz:xB w0){p b:Nat}{st s1:cZ}{c:Cfg}{l:kR}(h:xG w0 w p b st)(hn:named st=true)(hc:kN c=true)(hk:lu l)(ho:mD st c=(s1,0,some l))(hd:s1.dark=false)(hs:qp (s1.fs.map (·.name))=[]) :
  Calls prog 5 #[.pointer (some ⟨p,0,none⟩),.agg #[.int .i64 c.ss,.int .i64 c.ev,.int .u8 c.v]] w λe w'=>e = .returned (.tuple #[.pointer none,.int .i64 5])∧xG w0 w' p b s1∧dY p b w w':=by
 have HL:=hid hl;have HZ:=hid hz;have H:=hid h;have HC:=hid (And.intro hn (And.intro hc (And.intro hk (And.intro ho (And.intro hd hs)))));have HP:=hid hk.pos;have HFW:=hid hk.few;have HLN:=hid hk.len;clear hl hz h hn hc hk ho hd hs
 go_enter func5,ntmps5
 obtain⟨W1,hW1⟩:∃W1,W1=w.alloc (.cells #[.int .i64 c.ss,.int .i64 c.ev,.int .u8 c.v] 24):=⟨_,rfl⟩;have hb1:Below w.heap.size w W1:=by rw[hW1];exact(Below.refl _ _).alloc (Nat.le_refl _) _
 have HBW:=hid hb1
 go_wp2_with fail
 rw[← hW1];clear hW1;refine(xI HL.out (H.out.pure hb1) HC.out.1 HC.out.2.1 HC.out.2.2.1 HC.out.2.2.2.1).mono ?_;rintro e w1 ⟨g,F,rfl,hf,hr⟩;have HR1:=hid hr;have HF:=hid hf;clear hf H hb1 hr
 go_wp2_with fail
 refine(s9 w1 F g p l HF.out.env.lg HP.out).mono ?_;rintro e w2 ⟨rfl,rfl⟩
 go_wp2_with fail
 refine(sZ w1 F g p l HF.out.env.lg (by have:=HP.out;have:=HLN.out;omega) (by have:=HFW.out;have:=HLN.out;omega)).mono ?_;rintro e w3 ⟨rfl,hb3⟩;have HF3:=hid (HF.out.pure hb3);have HR3:=hid (((Fr.pure (S:=λk=>k=p∨k=b) HBW.out).trans HR1.out).trans (Fr.pure hb3));clear hb3
 go_wp2_with fail
 refine(Di w3 (HF3.out.mtd.lz HZ.out).1 p b s1 HF3.out.env.dk HC.out.2.2.2.2.1 l.first (l.next:Int) (λ_=>none) (by rw[HC.out.2.2.2.2.2];intro n hn;cases hn) (by rw[HC.out.2.2.2.2.2];intro n hn;cases hn)).mono ?_;rw[HC.out.2.2.2.2.2,show Db (λ_=>none) (C4 l.first (l.next:Int) []) = .tuple #[.int .i64 0,stZ,A5,.bool false,.int .i64 0]from rfl];rintro e w4 ⟨rfl,hb4⟩;have HF4:=hid (HF3.out.pure hb4);have HR4:=hid (HR3.out.trans (Fr.pure hb4));clear hb4
 try unfold stZ
 try unfold A5
 go_wp2_with fail
 obtain⟨X5,hX5⟩:∃X5,X5=(w4.alloc (.cells #[.int .i64 0,.int .i64 0,.int .i64 0,.int .i64 0,.slice none 0 0,.slice none 0 0,.slice none 0 0,.slice none 0 0,.slice none 0 0] 56)).alloc (.cells #[.slice none 0 0,.slice none 0 0,.slice none 0 0,.slice none 0 0] 64):=⟨_,rfl⟩;have hbx5:Below w4.heap.size w4 X5:=by rw[hX5];exact((Below.refl _ _).alloc (Nat.le_refl _) _).alloc (by simp) _
 rw[← hX5];exact bodyPost_ret (v:=.tuple #[.pointer none,.int .i64 5]) (by simp[results,results5,go_sem]) rfl ⟨rfl,HF4.out.mtd.pure hbx5,HR4.out.trans (Fr.pure hbx5)⟩
theorem Dm {w0 w:World}(hl:vN w0)(hz:xB w0){p b:Nat}{st s1 s2 s3 s4 s5:cZ}{c:Cfg}{l l':kR}(h:xG w0 w p b st)(hn:named st=true)(hc:kN c=true)(hk:lu l)(ho:mD st c=(s1,0,some l))(hd:s1.dark=false)
  (T:Nat→Option Nat) (hT:∀n∈qp (s1.fs.map (·.name)),Df s1 T n) (hN:∀n∈qp (s1.fs.map (·.name)),n≤1048576) {q:Nat} {x:Int} (hw:Db T (C4 l.first (l.next:Int) (qp (s1.fs.map (·.name)))) = .tuple #[.int .i64 (q:Int),AZ x 0 1 1,A5,.bool true,.int .i64 0])
  {k:Nat} (hb:rm q l.segs=k) (hk0:0<k) (hkl:k<l.segs.length) (hm:bL l.gen (l.segs.drop k)=true) (h2:jt s1 l.gen (l.segs.drop k)=(s2,0)) (h3:kT (goS ((l.segs.map gu).take k)) s2=(s3,0)) (h4:qt s3 q=(s4,0)) (hn4:named s4=true) (hk':lu l') (ho':mD s4 c=(s5,0,some l')) :
  Calls prog 5 #[.pointer (some ⟨p,0,none⟩),.agg #[.int .i64 c.ss,.int .i64 c.ev,.int .u8 c.v]] w λe w'=>∃g F,e = .returned (.tuple #[.pointer (some ⟨g,0,none⟩),.int .i64 0])∧xy w0 w' F g p b s5 l'∧dY p b w w':=by
 have HL:=hid hl;have HZ:=hid hz;have H:=hid h;have HC:=hid (And.intro hn (And.intro hc (And.intro hk (And.intro ho (And.intro hd (And.intro hT (And.intro hN hw)))))));have HD:=hid (And.intro hb (And.intro hm (And.intro h2 (And.intro h3 (And.intro h4 (And.intro hn4 (And.intro hk' ho')))))));have HP:=hid hk.pos;have HFW:=hid hk.few;have HLN:=hid hk.len;have hkd:decide ((k:Int) > 0)=true:=by simpa using hk0
 have hfw:=hk.few;clear hl hz h hn hc hk ho hd hT hN hw hb hm h2 h3 h4 hn4 hk' ho'
 go_enter func5,ntmps5
 obtain⟨W1,hW1⟩:∃W1,W1=w.alloc (.cells #[.int .i64 c.ss,.int .i64 c.ev,.int .u8 c.v] 24):=⟨_,rfl⟩;have hb1:Below w.heap.size w W1:=by rw[hW1];exact(Below.refl _ _).alloc (Nat.le_refl _) _
 have kc:W1.heap[w.heap.size]?=some (.cells #[.int .i64 c.ss,.int .i64 c.ev,.int .u8 c.v] 24 (0,0)):=by rw[hW1];exact heap_alloc_new _ _
 have hpb:w.heap.size≠p∧w.heap.size≠b:=by have:=H.out.dk.lt;have:=H.out.dk.own.lt;omega
 have KC:=hid kc;have HBW:=hid hb1
 go_wp2_with fail
 rw[← hW1];clear hW1 kc;refine(xI HL.out (H.out.pure hb1) HC.out.1 HC.out.2.1 HC.out.2.2.1 HC.out.2.2.2.1).mono ?_;rintro e w1 ⟨g,F,rfl,hf,hr1⟩;have HR1:=hid hr1;have HF:=hid hf;clear hf H hb1 hr1
 go_wp2_with fail
 refine(s9 w1 F g p l HF.out.env.lg HP.out).mono ?_;rintro e w2 ⟨rfl,rfl⟩
 go_wp2_with fail
 refine(sZ w1 F g p l HF.out.env.lg (by have:=HP.out;have:=HLN.out;omega) (by have:=HFW.out;have:=HLN.out;omega)).mono ?_;rintro e w3 ⟨rfl,hb3⟩;have HF3:=hid (HF.out.pure hb3);have HR3:=hid (HR1.out.trans (Fr.pure hb3));clear hb3
 go_wp2_with fail
 refine(Di w3 (HF3.out.mtd.lz HZ.out).1 p b s1 HF3.out.env.dk HC.out.2.2.2.2.1 l.first (l.next:Int) T HC.out.2.2.2.2.2.1 HC.out.2.2.2.2.2.2.1).mono ?_;rw[HC.out.2.2.2.2.2.2.2];rintro e w4 ⟨rfl,hb4⟩;have HF4:=hid (HF3.out.pure hb4);have HR4:=hid (HR3.out.trans (Fr.pure hb4));clear hb4
 try unfold AZ
 try unfold A5
 go_wp2_with fail
 obtain⟨X5,hX5⟩:∃X5,X5=(w4.alloc (.cells #[.int .i64 x,.int .i64 0,.int .i64 1,.int .i64 1,.slice none 0 0,.slice none 0 0,.slice none 0 0,.slice none 0 0,.slice none 0 0] 56)).alloc (.cells #[.slice none 0 0,.slice none 0 0,.slice none 0 0,.slice none 0 0] 64):=⟨_,rfl⟩;have hbx5:Below w4.heap.size w4 X5:=by rw[hX5];exact((Below.refl _ _).alloc (Nat.le_refl _) _).alloc (by simp) _
 rw[← hX5];have HF5:=hid (HF4.out.pure hbx5);have HR5:=hid (HR4.out.trans (Fr.pure hbx5));clear hX5 hbx5;refine(tm X5 F g p l HF5.out.env.lg HFW.out HP.out).mono ?_;rintro e w6 ⟨sv,rfl,hown,hob,hb6⟩;have HF6:=hid (HF5.out.pure hb6);have hs6:=hown.at;obtain⟨sa,sc,rfl⟩:=hs6.shape;obtain⟨sb,so,rfl,_,_,_⟩:=hs6.at 0 HP.out;obtain⟨W7,hW7⟩:∃W7,W7=w6.alloc (.cells #[.int .i64 l.gen,.slice (some ⟨sb,so,none⟩) l.segs.length sc] 42):=⟨_,rfl⟩;have hb7:Below w6.heap.size w6 W7:=by rw[hW7];exact(Below.refl _ _).alloc (Nat.le_refl _) _
 have k7:W7.heap[w6.heap.size]?=some (.cells #[.int .i64 l.gen,.slice (some ⟨sb,so,none⟩) l.segs.length sc] 42 (0,0)):=by rw[hW7];exact heap_alloc_new _ _
 have HF7:=hid (HF6.out.pure hb7);have HR7:=hid ((HR5.out.trans (Fr.pure hb6)).trans (Fr.pure hb7));have HS7:=hid (hs6.pure hb7);have HO7:=hid (show sb≠p∧sb≠b∧w6.heap.size≠p∧w6.heap.size≠b from by
  have h1:=hob sb rfl;have h2:=HF5.out.env.dk.lt;have h3:=HF5.out.env.dk.own.lt;have h4:=hb6.size;omega)
 have hsc:l.segs.length≤sc:=by
  rcases hown.2 with⟨hv,_⟩|⟨g',cap',cur,hv,_,_,h,_⟩
  ·cases hv
  ·cases hv;exact h
 have hsk:¬sc=k:=by omega
 clear hown hob hb6 hs6 hb7
 go_wp2_with fail
 rw[← hW7];clear hW7;refine(sf W7 l.gen (q:Int) _ l.segs HS7.out (by have:=HFW.out;omega)).mono ?_;rw[HD.out.1];rintro e w8 ⟨rfl,hb8⟩;have HF8:=hid (HF7.out.pure hb8);have HR8:=hid (HR7.out.trans (Fr.pure hb8));have HS8:=hid (HS7.out.pure hb8);have k8:=(hb8.block _ (lt_of_block k7)).trans k7;have K8:=hid k8;have m0:w8.cell? ⟨w6.heap.size,0,none⟩=some (.int .i64 l.gen):=(cell_of_row _ _ _ _ _ _ k8).trans rfl;have m1:w8.cell? ⟨w6.heap.size,1,none⟩=some (.slice (some ⟨sb,so,none⟩) l.segs.length sc):=(cell_of_row _ _ _ _ _ _ k8).trans rfl;have m0d:w8.drew.cell? ⟨w6.heap.size,0,none⟩=some (.int .i64 l.gen):=m0;have m1d:w8.drew.cell? ⟨w6.heap.size,1,none⟩=some (.slice (some ⟨sb,so,none⟩) l.segs.length sc):=m1;clear hb8 k8 k7
 go_upto_region 12 with fail
 go_cut [14] (λt wx=>t = .int .i64 0∧db wx p b s2∧dY p b w8 wx)
 case first=>
  go_region_with (go_at_call 14;refine(jC w8.drew p b s1 (HF8.out.env.dk.pure (Below.refl _ _).drew) l.gen _ (l.segs.drop k) ((HS8.out.pure (Below.refl _ _).drew).drop k (sc-k)) (by simp;omega) HD.out.2.1).mono ?_;rw[HD.out.2.2.1];rintro e w9 ⟨rfl,hd9,hf9⟩)
  all_goals
   go_wp2_with fail
   go_meet
   case rel=>exact⟨rfl,hd9,(Fr.pure (Below.refl _ _).drew).trans hf9⟩
 case rest=>
  obtain⟨rfl,hd9,hf9⟩:=hcut;have k9:=hf9.heapAt K8.out (by have:=HO7.out;omega);have HR9:=hid (HR8.out.trans hf9);have HS9:=hid (HS8.out.kept hf9 (λj e=>by cases e;show ¬(sb=p∨sb=b);have:=HO7.out;omega));have HM9:=hid (HF8.out.mtd.op hd9 hf9);have m0:wc.cell? ⟨w6.heap.size,0,none⟩=some (.int .i64 l.gen):=(cell_of_row _ _ _ _ _ _ k9).trans rfl;have m1:wc.cell? ⟨w6.heap.size,1,none⟩=some (.slice (some ⟨sb,so,none⟩) l.segs.length sc):=(cell_of_row _ _ _ _ _ _ k9).trans rfl;clear m0d m1d hd9 hf9 k9
  go_wp2_with fail
  refine(gw wc (HL.out.pure HM9.out.below).pow l.gen _ l.segs HS9.out HC.out.2.2.1.may).mono ?_;rintro e w10 ⟨v,rfl,hb10,hn10⟩;have ht10:rZ w10 v (l.segs.map gu):=rZ.of_own (show rX w10 (wc.heap.size+1) v (l.segs.map gu)from by unfold rX;rw[List.length_map];exact hn10);have HGE:=hid (show ∀y,v.ownBlock=some y→wc.heap.size≤y from λy e=>by have:=gt hn10 e;omega);have HT10:=hid ht10;obtain⟨na,nc,rfl,_⟩:=ht10;have HM10:=hid (HM9.out.pure hb10);have HR10:=hid (HR9.out.trans (Fr.pure hb10));have HPZ:=hid (show p<wc.heap.size∧b<wc.heap.size from⟨HM9.out.dk.lt,HM9.out.dk.own.lt⟩);have hll:(l.segs.map gu).length=l.segs.length:=List.length_map _;have hnc:k≤nc:=by
   rcases hn10.2 with⟨hv,h⟩|⟨g',cap',cur,hv,_,_,h,_⟩
   ·omega
   ·simp only[Value.slice.injEq]at hv;obtain⟨_,_,rfl⟩:=hv;omega
  clear hb10 hn10 m0 m1
  go_wp2_with fail
  refine(r9 w10 p b s2 HM10.out.dk _ ((l.segs.map gu).take k) (HT10.out.take k nc (by omega)) (λn hn=>?nlen) (by rw[List.length_take];have:=HFW.out;omega) (λy e=>by have h1:=HGE.out y (Dk e);have:=HPZ.out;omega)).mono ?_
  case nlen=>
   exact xQ HC.out.2.2.1.may (List.mem_of_mem_take hn)
  rw[HD.out.2.2.2.1];rintro e w11 ⟨rfl,hd11,hf11⟩;have HM11:=hid (HM10.out.op hd11 hf11);have HR11:=hid (HR10.out.trans hf11);clear hd11 hf11
  go_wp2_with fail
  refine(Dj w11 (HM11.out.lz HZ.out).1 p b s3 HM11.out.dk (HM11.out.lz HZ.out).2 (q:Int)).mono ?_;rw[HD.out.2.2.2.2.1];rintro e w12 ⟨rfl,hd12,hf12⟩;have HM12:=hid (HM11.out.op hd12 hf12);have HR12:=hid (HR11.out.trans hf12);have k12:=(HR11.out.trans hf12).heapAt KC.out (by omega);have c0:w12.cell? ⟨w.heap.size,0,none⟩=some (.int .i64 c.ss):=(cell_of_row _ _ _ _ _ _ k12).trans rfl;have c1:w12.cell? ⟨w.heap.size,1,none⟩=some (.int .i64 c.ev):=(cell_of_row _ _ _ _ _ _ k12).trans rfl;have c2:w12.cell? ⟨w.heap.size,2,none⟩=some (.int .u8 c.v):=(cell_of_row _ _ _ _ _ _ k12).trans rfl;clear hd12 hf12 k12
  go_wp2_with fail
  refine(xI HL.out HM12.out HD.out.2.2.2.2.2.1 HC.out.2.1 HD.out.2.2.2.2.2.2.1 HD.out.2.2.2.2.2.2.2).mono ?_;rintro e w13 ⟨g2,F2,rfl,hf13,hr13⟩;have HF13:=hid (And.intro hf13 (((Fr.pure (S:=λk=>k=p∨k=b) HBW.out).trans HR12.out).trans hr13));clear hf13 hr13 c0 c1 c2;go_wp2;exact bodyPost_ret (v:=.tuple #[.pointer (some ⟨g2,0,none⟩),.int .i64 0]) (by simp[results,results5,go_sem]) rfl ⟨g2,F2,rfl,HF13.out⟩
end
end Go.Proofs.YthjjgcfdhkhelaaGreatDoor
